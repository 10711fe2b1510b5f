/- Contracts and plain laws of functions of the given program; no conditions beside those in the theorems. -/
import Derived.Test.YtlepbhlbooajmaaC2LongestNumber
import Derived.Test.YtlepbhlbooajmaaC1LongestNumber
import Derived.Test.YtlepbhlbooajmaaC0LongestNumber
namespace Go.Proofs.Ytlepbhlbooajmaa.Pure
open Go.RowKit Go.Proofs.Ytlepbhlbooajmaa.Ext Go.Proofs.Ytlepbhlbooajmaa.Q Go.Proofs.YtlepbhlbooajmaaW.PrintWords Go.Proofs.YtlepbhlbooajmaaW.PrintLast Go.Proofs.YtlepbhlbooajmaaW.PrintMore
set_option linter.unusedVariables false
set_option linter.unusedSimpArgs false
abbrev Pc := S108
theorem wsucc (n : Nat) (h : n ≤ 4611686018427387904) : wrap64 ((n : Int) + 1) = ((n + 1 : Nat) : Int) := by unfold wrap64; omega
theorem i8w {x : Int} (h0 : -128 ≤ x) (h1 : x ≤ 127) : IntKind.i8.wrap x = x := by simp [IntKind.wrap, IntKind.signed, IntKind.bits]; omega
theorem set_mid {α : Type} (A : List α) (b b' : α) (C : List α) (n : Nat) (h : n = A.length) : (A ++ b :: C).set n b' = A ++ b' :: C := by
 subst h
 rw [List.set_append_right _ _ (Nat.le_refl _), Nat.sub_self]
 rfl
theorem get_mid {α : Type} (A : List α) (b : α) (C : List α) (d : α) (n : Nat) (h : n = A.length) : (A ++ b :: C).getD n d = b := by
 subst h
 rw [List.getD_eq_getElem?_getD, List.getElem?_append_right (Nat.le_refl _), Nat.sub_self]
 rfl
theorem get_left {α : Type} (A C : List α) (d : α) (n : Nat) (h : n < A.length) : (A ++ C).getD n d = A.getD n d := by
 rw [List.getD_eq_getElem?_getD, List.getElem?_append_left h, ← List.getD_eq_getElem?_getD]
structure Imp (s : Sys) (P : List Pt) (X : List (List Int)) : Prop where
 len : P.length = s.m
 txt : ∀ p : Nat, p < s.m → (rd_T81 P (p : Int)).f0 = s.T p
 val : ∀ p : Nat, p < s.m → (rd_T81 P (p : Int)).f1 = s.V p
 nlen : X.length = s.m
 nxt : ∀ k : Nat, k < s.m → X.getD k [] = nxL s k
structure Ref (s : Sys) (P : List Pc) (X : List (List Bool)) : Prop where
 len : P.length = s.m
 txt : ∀ p : Nat, p < s.m → (rd_T108 P (p : Int)).f0 = s.T p
 val : ∀ p : Nat, p < s.m → (rd_T108 P (p : Int)).f1 = s.V p
 nlen : X.length = s.m + 1
 nxl : ∀ k : Nat, k ≤ s.m → (X.getD k []).length = s.m
 nxt : ∀ k p : Nat, k ≤ s.m → p < s.m → rdOf false (X.getD k []) (p : Int) = s.nx k p
theorem tabV_bd (s : Sys) (ho : s.ok) (j k : Nat) (hk : k < s.m) : 0 ≤ tabV s j k ∧ tabV s j k ≤ 100 := by
 unfold tabV
 split
 ·have := valT_bd s ho ((j : Int) - s.V k).toNat k (by omega)
  have := ho.l0 k hk
  split <;> omega
 ·omega
theorem rd_at (l : List Int) (i : Nat) (h : i < l.length) : l.drop i = rd l (i : Int) :: l.drop (i + 1) := by
 rw [List.drop_eq_getElem_cons h]
 congr 1
 simp [rd, List.getD_eq_getElem?_getD, List.getElem?_eq_getElem h]
theorem len_l2 (P : List Pt) (X : List (List Int)) (x5 : List (List Int)) (j kk r N m : Nat) (T : ByteArray) (V : Int) (lst : List Int) (R : List (List Int)) (K : Nat)
  (hr : r < x5.length) (hj : j < x5.length) (hk : kk < (x5.getD j []).length) (hq : ∀ q ∈ lst, 0 ≤ q ∧ q < ((x5.getD r []).length : Int) ∧ 0 ≤ rd (x5.getD r []) q) (hl : lst.length ≤ 1000) (hkb : kk ≤ 1000) (hT : 1 ≤ T.size ∧ T.size ≤ 2) :
  ∀ (d i k : Nat) (a : Int), i + d = lst.length → K + d < k → 0 ≤ a → a ≤ 100 →
   (∀ k', K ≤ k' → impl_builder_lengths.l1 k' (x5.set j ((x5.getD j []).set kk (mn (fT (x5.getD r []) (lst.drop i) a + (T.size : Int)) 100))) j N j P m ((kk + 1 : Nat) : Int) P X = some R) →
   impl_builder_lengths.l2 k x5 j kk r a N j P m kk lst (lst.length : Int) i P X T V = some R := by
 intro d
 induction d with
 | zero =>
  intro i k a hi hK ha0 ha1 h
  obtain ⟨k, rfl⟩ : ∃ k', k = k' + 1 := ⟨k - 1, by omega⟩
  have hk' : kk < (x5.getD (j : Int).toNat []).length := hk
  unfold impl_builder_lengths.l2
  delta rd_L11 rd_L12 rd_L15 rd_L16 rd_L18 rd_L5 rd_L6
  rw [if_neg (by omega), if_pos (by omega), if_pos (by omega), if_pos (by omega), if_pos (by omega), i8w (x := (T.size : Int)) (by omega) (by omega), i8w (by omega) (by omega), wsucc kk (by omega)]
  have := h k (by omega)
  rw [List.drop_eq_nil_of_le (by omega)] at this
  exact this
 | succ d ih =>
  intro i k a hi hK ha0 ha1 h
  obtain ⟨k, rfl⟩ : ∃ k', k = k' + 1 := ⟨k - 1, by omega⟩
  have hlt : i < lst.length := by omega
  have hd := rd_at lst i hlt
  have hmem : rd lst (i : Int) ∈ lst := by
   have : rd lst (i : Int) ∈ lst.drop i := by rw [hd]; exact List.mem_cons_self
   exact List.mem_of_mem_drop this
  obtain ⟨q0, q1, q2⟩ := hq _ hmem
  have q1' : rd lst (i : Int) < ((x5.getD (r : Int).toNat []).length : Int) := q1
  unfold impl_builder_lengths.l2
  delta rd_L11 rd_L12 rd_L15 rd_L16 rd_L18 rd_L5 rd_L6
  rw [if_pos (by omega), if_pos (by omega), if_pos (by omega), if_pos (by omega), if_pos (by omega), if_pos q0, if_pos q1', wsucc i (by omega)]
  have hm := mn_le a (rd (x5.getD r []) (rd lst (i : Int)))
  refine ih (i + 1) k (mn a (rd (x5.getD r []) (rd lst (i : Int)))) (by omega) (by omega) (by omega) (by omega) fun k' hk' => ?_
  have := h k' hk'
  rw [hd] at this
  exact this
def rowPt (s : Sys) (j i : Nat) : List Int := (List.range i).map (cellT s (tabT s j) j) ++ List.replicate (s.m - i) 0
theorem rowPt_len (s : Sys) (j i : Nat) (h : i ≤ s.m) : (rowPt s j i).length = s.m := by unfold rowPt; simp; omega
theorem rowPt_set (s : Sys) (j i : Nat) (h : i < s.m) : (rowPt s j i).set i (cellT s (tabT s j) j i) = rowPt s j (i + 1) := by
 unfold rowPt
 rw [show s.m - i = (s.m - (i + 1)) + 1 from by omega, List.replicate_succ, set_mid _ _ _ _ i (by simp), List.range_succ, List.map_append]
 simp
theorem rowPt_full (s : Sys) (j : Nat) : rowPt s j s.m = rowT s (tabT s j) j := by unfold rowPt rowT; simp
def stT (s : Sys) (N j i : Nat) : List (List Int) := tabT s j ++ rowPt s j i :: List.replicate (N - (j + 1)) []
theorem stT_len (s : Sys) (N j i : Nat) (h : j < N) : (stT s N j i).length = N := by unfold stT; simp [tabT_len]; omega
theorem stT_at (s : Sys) (N j i : Nat) : (stT s N j i).getD j [] = rowPt s j i := by unfold stT; exact get_mid _ _ _ _ _ (tabT_len s j).symm
theorem stT_left (s : Sys) (N j i r : Nat) (h : r < j) : (stT s N j i).getD r [] = (tabT s j).getD r [] := by unfold stT; exact get_left _ _ _ _ (by rw [tabT_len]; exact h)
theorem stT_set (s : Sys) (N j i : Nat) (h : i < s.m) : (stT s N j i).set j ((rowPt s j i).set i (cellT s (tabT s j) j i)) = stT s N j (i + 1) := by
 unfold stT
 rw [set_mid _ _ _ _ j (tabT_len s j).symm, rowPt_set s j i h]
theorem len_l1 (s : Sys) (ho : s.ok) (P : List Pt) (X : List (List Int)) (hI : Imp s P X) (N j : Nat) (hj : j < N) (hN : N ≤ 100000) (R : List (List Int)) (K : Nat)
  (h0 : ∀ k', K ≤ k' → impl_builder_lengths.l0 k' (stT s N j s.m) N ((j + 1 : Nat) : Int) P X = some R) :
  ∀ (d i k : Nat), i + d = s.m → K + d * (s.m + 2) < k → impl_builder_lengths.l1 k (stT s N j i) j N j P (s.m : Int) i P X = some R := by
 have hm1 := ho.m1
 intro d
 induction d with
 | zero =>
  intro i k hi hK
  obtain ⟨k, rfl⟩ : ∃ k', k = k' + 1 := ⟨k - 1, by omega⟩
  obtain rfl : i = s.m := by omega
  unfold impl_builder_lengths.l1
  rw [if_neg (by omega), wsucc j (by omega)]
  exact h0 k (by omega)
 | succ d ih =>
  intro i k hi hK
  have hs : K + d * (s.m + 2) + (s.m + 2) < k := by rw [Nat.succ_mul] at hK; omega
  obtain ⟨k, rfl⟩ : ∃ k', k = k' + 1 := ⟨k - 1, by omega⟩
  have hlt : i < s.m := by omega
  have hlen := hI.len
  have hsz := stT_len s N j i hj
  have hat := stT_at s N j i
  have hat' : (stT s N j i).getD (j : Int).toNat [] = rowPt s j i := hat
  have hrl := rowPt_len s j i (by omega)
  have hv0 := ho.v0 i hlt
  have hv1 := ho.v1 i hlt
  have hL0 := ho.l0 i hlt
  have hL1 := ho.l1 i hlt
  have hL : ((rd_T81 P (i : Int)).f0.size : Int) = s.L i := by rw [hI.txt i hlt]; rfl
  have hw : wrap64 ((j : Int) - s.V i) = (j : Int) - s.V i := by unfold wrap64; omega
  have hstep := stT_set s N j i hlt
  unfold impl_builder_lengths.l1
  delta rd_L11 rd_L12 rd_L15 rd_L16 rd_L18 rd_L5 rd_L6
  rw [hat', if_pos (by omega), if_pos (by omega), if_pos (by omega), hI.val i hlt, hw]
  by_cases hz : (j : Int) - s.V i = 0
  ·rw [if_pos hz, if_pos (by omega), if_pos (by omega), if_pos (by omega), hL, i8w (x := s.L i) (by omega) (by omega), i8w (by omega) (by omega), wsucc i (by omega), Int.toNat_natCast, Int.toNat_natCast]
   rw [show mn (0 + s.L i) 100 = cellT s (tabT s j) j i from by unfold cellT baseT; rw [if_pos hz], hstep]
   exact ih (i + 1) k (by omega) (by omega)
  ·rw [if_neg hz]
   by_cases hp : (j : Int) - s.V i > 0
   ·obtain ⟨r, hr⟩ : ∃ r : Nat, (j : Int) - s.V i = (r : Int) := ⟨((j : Int) - s.V i).toNat, by omega⟩
    have hX := hI.nlen
    rw [if_pos hp, if_pos (by omega), show X.getD (i : Int).toNat [] = nxL s i from hI.nxt i hlt, hr]
    have hrj : r < j := by omega
    have hrow := stT_left s N j i r hrj
    have hmem : ∀ q ∈ nxL s i, 0 ≤ q ∧ q < (((stT s N j i).getD r []).length : Int) ∧ 0 ≤ rd ((stT s N j i).getD r []) q := by
     intro q hq
     obtain ⟨p, h1, h2, rfl⟩ := mem_nxL.1 hq
     rw [hrow, rd_tabT s ho hrj h1, tabT_get s hrj]
     have := tabV_bd s ho r p h1
     refine ⟨by omega, ?_, this.1⟩
     unfold rowT
     simp; exact h1
    have hnl : (nxL s i).length ≤ s.m := by unfold nxL; rw [List.length_map]; exact Nat.le_trans (List.length_filter_le _ _) (by simp)
    refine len_l2 P X (stT s N j i) j i r N s.m _ _ (nxL s i) R (K + d * (s.m + 2) + 1) (by omega) (by omega) (by rw [hat]; omega) hmem (by omega) (by omega) (by omega) (nxL s i).length 0 k 100 (by omega) (by omega) (by omega) (by omega) fun k' hk' => ?_
    rw [List.drop_zero, hL, hat, hrow]
    rw [show mn (fT ((tabT s j).getD r []) (nxL s i) 100 + s.L i) 100 = cellT s (tabT s j) j i from by unfold cellT baseT; rw [if_neg hz, if_pos hp, hr, Int.toNat_natCast], hstep]
    exact ih (i + 1) k' (by omega) (by omega)
   ·rw [if_neg hp, if_pos (by omega), if_pos (by omega), if_pos (by omega), hL, i8w (x := s.L i) (by omega) (by omega), i8w (by omega) (by omega), wsucc i (by omega), Int.toNat_natCast, Int.toNat_natCast]
    rw [show mn (100 + s.L i) 100 = cellT s (tabT s j) j i from by unfold cellT baseT; rw [if_neg hz, if_neg hp], hstep]
    exact ih (i + 1) k (by omega) (by omega)
theorem len_l0 (s : Sys) (ho : s.ok) (P : List Pt) (X : List (List Int)) (hI : Imp s P X) (N : Nat) (hN : N ≤ 100000) :
  ∀ (d j k : Nat), j + d = N → d * ((s.m + 1) * (s.m + 2)) < k → impl_builder_lengths.l0 k (tabT s j ++ List.replicate (N - j) []) N j P X = some (tabT s N) := by
 have hm1 := ho.m1
 intro d
 induction d with
 | zero =>
  intro j k hj hK
  obtain ⟨k, rfl⟩ : ∃ k', k = k' + 1 := ⟨k - 1, by omega⟩
  obtain rfl : j = N := by omega
  unfold impl_builder_lengths.l0
  rw [if_neg (by omega), Nat.sub_self]
  simp
 | succ d ih =>
  intro j k hj hK
  have hs : d * ((s.m + 1) * (s.m + 2)) + (s.m + 1) * (s.m + 2) < k := by rw [Nat.succ_mul] at hK; omega
  have hs2 : (s.m + 1) * (s.m + 2) = s.m * (s.m + 2) + (s.m + 2) := Nat.succ_mul _ _
  obtain ⟨k, rfl⟩ : ∃ k', k = k' + 1 := ⟨k - 1, by omega⟩
  have hlen := hI.len
  have hl : (tabT s j ++ List.replicate (N - j) []).length = N := by simp [tabT_len]; omega
  unfold impl_builder_lengths.l0
  rw [if_pos (by omega), if_pos (by omega), if_pos (by omega), if_pos (by omega), if_pos (by omega), Int.toNat_natCast, Int.toNat_natCast]
  rw [show N - j = (N - (j + 1)) + 1 from by omega, List.replicate_succ, set_mid _ _ _ _ j (tabT_len s j).symm, hlen]
  have e : tabT s j ++ List.replicate s.m 0 :: List.replicate (N - (j + 1)) [] = stT s N j 0 := by unfold stT rowPt; simp
  rw [e]
  refine len_l1 s ho P X hI N j (by omega) hN _ (d * ((s.m + 1) * (s.m + 2)) + 1) (fun k' hk' => ?_) s.m 0 k (by omega) (by omega)
  have e2 : stT s N j s.m = tabT s (j + 1) ++ List.replicate (N - (j + 1)) [] := by
   unfold stT
   rw [rowPt_full, show tabT s (j + 1) = tabT s j ++ [rowT s (tabT s j) j] from rfl, List.append_assoc]
   rfl
  rw [e2]
  exact ih (j + 1) k' (by omega) (by omega)
theorem lengths_eq (s : Sys) (ho : s.ok) (P : List Pt) (X : List (List Int)) (hI : Imp s P X) (n : Nat) (hn : n ≤ 10000) {k : Nat} (hk : (n + 1) * 306 < k) : impl_builder_lengths.f k P X (n : Int) = some (tabT s (n + 1)) := by
 unfold impl_builder_lengths.f
 rw [wsucc n (by omega), if_pos (by omega), if_pos (by omega), Option.bind_some, Int.toNat_natCast, List.length_replicate]
 have hb : (s.m + 1) * (s.m + 2) ≤ 306 := Nat.le_trans (Nat.mul_le_mul (Nat.succ_le_succ ho.m1) (Nat.add_le_add_right ho.m1 2)) (by omega)
 have := len_l0 s ho P X hI (n + 1) (by omega) (n + 1) 0 k (by omega) (Nat.lt_of_le_of_lt (Nat.mul_le_mul_left _ hb) hk)
 exact this
theorem rd_set_same (l : List Int) (i : Nat) (v : Int) (h : i < l.length) : rd (l.set i v) (i : Int) = v := by
 simp [rd, List.getD_eq_getElem?_getD, List.getElem?_set, h]
theorem set_set' (l : List Int) (i : Nat) (v u : Int) : (l.set i v).set i u = l.set i u := List.set_set ..
def rowPs (s : Sys) (j i : Nat) : List Int := (List.range i).map (fun last => cS s (tabS s j) j last s.m) ++ List.replicate (s.m + 1 - i) 0
theorem rowPs_len (s : Sys) (j i : Nat) (h : i ≤ s.m + 1) : (rowPs s j i).length = s.m + 1 := by unfold rowPs; simp; omega
theorem rowPs_set (s : Sys) (j i : Nat) (h : i < s.m + 1) : (rowPs s j i).set i (cS s (tabS s j) j i s.m) = rowPs s j (i + 1) := by
 unfold rowPs
 rw [show s.m + 1 - i = (s.m + 1 - (i + 1)) + 1 from by omega, List.replicate_succ, set_mid _ _ _ _ i (by simp), List.range_succ, List.map_append]
 simp
theorem rowPs_full (s : Sys) (j : Nat) (hj : 0 < j) : rowPs s j (s.m + 1) = rowS s (tabS s j) j := by
 unfold rowPs rowS
 rw [Nat.sub_self, List.replicate_zero, List.append_nil]
 refine List.map_congr_left fun last _ => ?_
 rw [if_neg (by omega)]
theorem lens_l2 (s : Sys) (ho : s.ok) (P : List Pc) (X : List (List Bool)) (hR : Ref s P X) (n : Int) (j i : Nat) (hj : 0 < j) (hjb : j ≤ 100000) (hi : i ≤ s.m) (row : List Int) (hrow : row.length = s.m + 1) (R : List (List Int)) (K : Nat) 
  (h0 : ∀ k', K ≤ k' → spec_l03Lens.l1 k' P X n (tabS s j) j (row.set i (cS s (tabS s j) j i s.m)) ((i + 1 : Nat) : Int) = some R) :
  ∀ (d q k : Nat), q + d = s.m → K + d < k → spec_l03Lens.l2 k P X n (tabS s j) j (row.set i (cS s (tabS s j) j i q)) i q = some R := by
 have hm1 := ho.m1
 intro d
 induction d with
 | zero =>
  intro q k hq hK
  obtain ⟨k, rfl⟩ : ∃ k', k = k' + 1 := ⟨k - 1, by omega⟩
  obtain rfl : q = s.m := by omega
  have hlen := hR.len
  unfold spec_l03Lens.l2
  rw [if_neg (by omega), wsucc i (by omega)]
  exact h0 k (by omega)
 | succ d ih =>
  intro q k hq hK
  obtain ⟨k, rfl⟩ : ∃ k', k = k' + 1 := ⟨k - 1, by omega⟩
  have hlt : q < s.m := by omega
  have hlen := hR.len
  have hnl := hR.nlen
  have hxl := hR.nxl i hi
  have hv0 := ho.v0 q hlt
  have hv1 := ho.v1 q hlt
  have hL0 := ho.l0 q hlt
  have hL1 := ho.l1 q hlt
  have hL : ((rd_T108 P (q : Int)).f0.size : Int) = s.L q := by rw [hR.txt q hlt]; rfl
  have hw : wrap64 ((j : Int) - s.V q) = (j : Int) - s.V q := by unfold wrap64; omega
  have htl := tabS_len s j
  have hxl' : (X.getD (i : Int).toNat []).length = s.m := hxl
  unfold spec_l03Lens.l2
  delta rd_L11 rd_L12 rd_L15 rd_L16 rd_L18 rd_L5 rd_L6
  rw [if_pos (by omega), if_pos (by omega), if_pos (by omega), if_pos (by omega), if_pos (by omega), show rdOf false (X.getD (i : Int).toNat []) (q : Int) = s.nx i q from hR.nxt i q hi hlt, hR.val q hlt, hw, hL, wsucc q (by omega)]
  have hstep : cS s (tabS s j) j i (q + 1) = if s.nx i q = true ∧ s.V q ≤ (j : Int) then lo (cS s (tabS s j) j i q) (s.L q + at2 (tabS s j) ((j : Int) - s.V q) q) else cS s (tabS s j) j i q := rfl
  by_cases hn : s.nx i q = true
  ·rw [if_pos hn]
   by_cases hv : s.V q ≤ (j : Int)
   ·have hr := rest_nat hv hv0
    rw [if_pos ⟨hn, hv⟩] at hstep
    have e : at2 (tabS s j) ((j : Int) - s.V q) q = rd ((tabS s j).getD ((j : Int) - s.V q).toNat []) (q : Int) := by unfold at2 rd; rw [Int.toNat_natCast]
    have hval := valT_bd s ho ((j : Int) - s.V q).toNat q (by omega)
    have e2 : at2 (tabS s j) ((j : Int) - s.V q) q = valT s ((j : Int) - s.V q).toNat q := by rw [hr.1, at2_tabS s hr.2, Int.toNat_natCast]
    have hrl : ((tabS s j).getD ((j : Int) - s.V q).toNat []).length = s.m + 1 := by rw [tabS_get s hr.2]; unfold rowS; simp
    rw [if_pos hv, if_pos (by rw [List.length_set]; omega), if_pos (by omega), if_pos (by omega), if_pos (by omega), rd_set_same _ _ _ (by omega), ← e]
    rw [e2] at hstep ⊢
    rw [show wrap64 (s.L q + valT s ((j : Int) - s.V q).toNat q) = s.L q + valT s ((j : Int) - s.V q).toNat q from by unfold wrap64; omega]
    have hmin : spec_l00Min.f (cS s (tabS s j) j i q) (s.L q + valT s ((j : Int) - s.V q).toNat q) = some (lo (cS s (tabS s j) j i q) (s.L q + valT s ((j : Int) - s.V q).toNat q)) := by unfold spec_l00Min.f lo; split <;> rfl
    rw [hmin, Option.bind_some, Int.toNat_natCast, set_set', ← hstep]
    exact ih (q + 1) k (by omega) (by omega)
   ·rw [if_neg (fun h => hv h.2)] at hstep
    rw [if_neg hv, ← hstep]
    exact ih (q + 1) k (by omega) (by omega)
  ·rw [if_neg (fun h => hn h.1)] at hstep
   rw [if_neg hn, ← hstep]
   exact ih (q + 1) k (by omega) (by omega)
theorem lens_l1 (s : Sys) (ho : s.ok) (P : List Pc) (X : List (List Bool)) (hR : Ref s P X) (n : Int) (j : Nat) (hj : 0 < j) (hjb : j ≤ 100000) (R : List (List Int)) (K : Nat)
  (h0 : ∀ k', K ≤ k' → spec_l03Lens.l0 k' P X n (tabS s (j + 1)) ((j + 1 : Nat) : Int) = some R) :
  ∀ (d i k : Nat), i + d = s.m + 1 → K + 2 + d * (s.m + 4) < k → spec_l03Lens.l1 k P X n (tabS s j) j (rowPs s j i) i = some R := by
 have hm1 := ho.m1
 have hlen := hR.len
 intro d
 induction d with
 | zero =>
  intro i k hi hK
  obtain ⟨k, rfl⟩ : ∃ k', k = k' + 2 := ⟨k - 2, by omega⟩
  obtain rfl : i = s.m + 1 := by omega
  unfold spec_l03Lens.l1
  rw [if_neg (by omega)]
  unfold spec_l03Lens.j2
  rw [if_neg (by simp), if_pos (by rw [tabS_len]; omega), wsucc j (by omega), rowPs_full s j hj]
  exact h0 k (by omega)
 | succ d ih =>
  intro i k hi hK
  have hs : K + 2 + d * (s.m + 4) + (s.m + 4) < k := by rw [Nat.succ_mul] at hK; omega
  obtain ⟨k, rfl⟩ : ∃ k', k = k' + 2 := ⟨k - 2, by omega⟩
  have hl := rowPs_len s j i (by omega)
  unfold spec_l03Lens.l1
  rw [if_pos (by omega)]
  unfold spec_l03Lens.j2
  rw [if_pos (decide_eq_true (by omega)), if_pos (by omega), if_pos (by omega), Int.toNat_natCast]
  refine lens_l2 s ho P X hR n j i hj hjb (by omega) (rowPs s j i) hl R (K + 2 + d * (s.m + 4) + 1) (fun k' hk' => ?_) s.m 0 k (by omega) (by omega)
  rw [rowPs_set s j i (by omega)]
  exact ih (i + 1) k' (by omega) (by omega)
theorem lens_l0 (s : Sys) (ho : s.ok) (P : List Pc) (X : List (List Bool)) (hR : Ref s P X) (n : Nat) (hn : n ≤ 10000) :
  ∀ (d j k : Nat), j + d = n + 1 → d * ((s.m + 2) * (s.m + 4)) < k → spec_l03Lens.l0 k P X n (tabS s j) j = some (tabS s (n + 1)) := by
 have hm1 := ho.m1
 have hlen := hR.len
 intro d
 induction d with
 | zero =>
  intro j k hj hK
  obtain ⟨k, rfl⟩ : ∃ k', k = k' + 1 := ⟨k - 1, by omega⟩
  obtain rfl : j = n + 1 := by omega
  unfold spec_l03Lens.l0
  rw [if_neg (by omega)]
 | succ d ih =>
  intro j k hj hK
  have hs : d * ((s.m + 2) * (s.m + 4)) + (s.m + 2) * (s.m + 4) < k := by rw [Nat.succ_mul] at hK; omega
  have hs2 : (s.m + 2) * (s.m + 4) = (s.m + 1) * (s.m + 4) + (s.m + 4) := Nat.succ_mul _ _
  obtain ⟨k, rfl⟩ : ∃ k', k = k' + 1 := ⟨k - 1, by omega⟩
  unfold spec_l03Lens.l0
  rw [if_pos (by omega), hlen, wsucc s.m (by omega), if_pos (by omega), if_pos (by omega), Int.toNat_natCast]
  by_cases h0 : j = 0
  ·subst h0
   obtain ⟨k, rfl⟩ : ∃ k', k = k' + 2 := ⟨k - 2, by omega⟩
   unfold spec_l03Lens.l1
   rw [if_pos (by omega)]
   unfold spec_l03Lens.j2
   rw [if_neg (by simp), if_pos (by rw [tabS_len]; omega), wsucc 0 (by omega)]
   have e : tabS s 0 ++ [List.replicate (s.m + 1) 0] = tabS s (0 + 1) := by
    rw [show tabS s (0 + 1) = tabS s 0 ++ [rowS s (tabS s 0) 0] from rfl]
    congr 2
    unfold rowS
    apply List.ext_getElem
    ·simp
    ·intro i h1 h2; simp
   rw [e]
   exact ih (0 + 1) k (by omega) (by omega)
  ·have e : List.replicate (s.m + 1) 0 = rowPs s j 0 := by unfold rowPs; simp
   rw [e]
   refine lens_l1 s ho P X hR n j (by omega) (by omega) _ (d * ((s.m + 2) * (s.m + 4)) + 1) (fun k' hk' => ih (j + 1) k' (by omega) (by omega)) (s.m + 1) 0 k (by omega) (by omega)
theorem lens_eq (s : Sys) (ho : s.ok) (P : List Pc) (X : List (List Bool)) (hR : Ref s P X) (n : Nat) (hn : n ≤ 10000) {k : Nat} (hk : (n + 1) * 360 < k) : spec_l03Lens.f k P X (n : Int) = some (tabS s (n + 1)) := by
 unfold spec_l03Lens.f
 have hb : (s.m + 2) * (s.m + 4) ≤ 360 := Nat.le_trans (Nat.mul_le_mul (Nat.add_le_add_right ho.m1 2) (Nat.add_le_add_right ho.m1 4)) (by omega)
 exact lens_l0 s ho P X hR n hn (n + 1) 0 k (by omega) (Nat.lt_of_le_of_lt (Nat.mul_le_mul_left _ hb) hk)
end Go.Proofs.Ytlepbhlbooajmaa.Pure
namespace Go.Proofs.Ytlepbhlbooajmaa.Ext
end Go.Proofs.Ytlepbhlbooajmaa.Ext
namespace Go.Proofs.Ytlepbhlbooajmaa.Q
open Go.Proofs.Ytlepbhlbooajmaa.Ext
open Go.RowKit Go.Proofs.YtlepbhlbooajmaaW.PrintWords Go.Proofs.YtlepbhlbooajmaaW.PrintLast Go.Proofs.YtlepbhlbooajmaaW.PrintMore
attribute [local go_sem] max2_int min2_int max_two min_two max_three min_three max_four min_four
set_option linter.unusedVariables false
set_option linter.unusedSimpArgs false
mutual
def impl_builder_shortest.l0 : Nat → List (List Int) → Int → List Int → Int → List Int → Int → Int → List (S81) → List (List Int) → Option (ByteArray)
 | 0, _, _, _, _, _, _, _, _, _ => none
 | k + 1, x1, x2, x3, x9, x19, x20, x21, x318000, x318001 => if x21 < x20 then (if 0 ≤ x21 then (if x21 < (x19.length : Int) then (if 0 ≤ x2 then (if x2 < (x1.length : Int) then (if 0 ≤ (rd x19 x21) then (if (rd x19 x21) < ((rd_L18 x1 x2).length : Int) then (impl_builder_shortest.l0 k x1 x2 x3 (mn x9 (rd (rd_L18 x1 x2) (rd x19 x21))) x19 x20 (wrap64 (x21 + 1)) x318000 x318001) else (none)) else (none)) else (none)) else (none)) else (none)) else (none)) else (impl_builder_shortest.l1 k x1 x2 x9 (⟨#[]⟩ : ByteArray) x3 (x3.length : Int) 0 x318000 x318001)
def impl_builder_shortest.l1 : Nat → List (List Int) → Int → Int → ByteArray → List Int → Int → Int → List (S81) → List (List Int) → Option (ByteArray)
 | 0, _, _, _, _, _, _, _, _, _ => none
 | k + 1, x1, x2, x9, x12, x35, x36, x37, x318000, x318001 => if x37 < x36 then (if 0 ≤ x37 then (if x37 < (x35.length : Int) then (if 0 ≤ x2 then (if x2 < (x1.length : Int) then (if 0 ≤ (rd x35 x37) then (if (rd x35 x37) < ((rd_L18 x1 x2).length : Int) then (if (rd (rd_L18 x1 x2) (rd x35 x37)) = x9 then (if (rd x35 x37) < (x318000.length : Int) then (if (rd x35 x37) < (x318001.length : Int) then ((impl_builder_shortest.f k x318000 x318001 x1 (wrap64 (x2 - ((rd_T81 x318000 (rd x35 x37)).f1))) (rd_L16 x318001 (rd x35 x37))).bind fun t327 => (if ((rd_T81 x318000 (rd x35 x37)).f0).size + t327.size ≤ 9223372036854775807 then (if x12.toList = ([] : List UInt8) then (impl_builder_shortest.l1 k x1 x2 x9 (((rd_T81 x318000 (rd x35 x37)).f0) ++ t327) x35 x36 (wrap64 (x37 + 1)) x318000 x318001) else (if (Op.bytesLess ((((rd_T81 x318000 (rd x35 x37)).f0) ++ t327).toList) x12.toList) = true then (impl_builder_shortest.l1 k x1 x2 x9 (((rd_T81 x318000 (rd x35 x37)).f0) ++ t327) x35 x36 (wrap64 (x37 + 1)) x318000 x318001) else (impl_builder_shortest.l1 k x1 x2 x9 x12 x35 x36 (wrap64 (x37 + 1)) x318000 x318001))) else (none))) else (none)) else (none)) else (impl_builder_shortest.l1 k x1 x2 x9 x12 x35 x36 (wrap64 (x37 + 1)) x318000 x318001)) else (none)) else (none)) else (none)) else (none)) else (none)) else (none)) else (some x12)
def impl_builder_shortest.f : Nat → List (S81) → List (List Int) → List (List Int) → Int → List Int → Option (ByteArray)
 | 0, _, _, _, _, _ => none
 | k + 1, l0_0, l0_1, l1, a2, l3 => if a2 = 0 then (some (⟨#[]⟩ : ByteArray)) else (impl_builder_shortest.l0 k l1 a2 l3 100 l3 (l3.length : Int) 0 l0_0 l0_1)
end
def impl_builder_shortest.T15 : Bool × List (List Nat × List Nat) := (true, [([], []), ([0], [0]), ([], []), ([], []), ([], []), ([], []), ([5], [5]), ([4, 6], [4, 6]), ([], []), ([8], [8]), ([], []), ([9, 10], [9, 10]), ([11], [11]), ([2, 3, 7, 12], [2, 3, 7, 12]), ([1, 13], [1, 13]), ([14, 13, 0, 1, 2, 3, 4, 5, 6, 7, 8, 9, 10, 11, 12, 13, 14], [14])])
def impl_builder_shortest.B15 : List Nat := [0, 1, 0, 0, 0, 0, 32, 112, 0, 256, 0, 1792, 3840, 8188, 16383, 32767]
theorem impl_builder_shortest.tab15 : rtab .any (opsOf Try.f43 15) = impl_builder_shortest.T15 := by kernel_rfl
theorem impl_builder_shortest.bits15 : waitsOk impl_builder_shortest.T15.2 impl_builder_shortest.B15 = true := by kernel_rfl
set_option maxHeartbeats 8000000 in
set_option maxRecDepth 100000 in
theorem impl_builder_shortest.calls (k : Nat) : ∀ (A0_0 : Option Addr) (c0_0 : Nat) (l0_0 : List (S81)) (A0_1 : Option Addr) (c0_1 : Nat) (l0_1 : List (List Int)) (A1 : Option Addr) (c1 : Nat) (l1 : List (List Int)) (a2 : Int) (A3 : Option Addr) (c3 : Nat) (l3 : List Int) (r : ByteArray) (w : World) (hr0_0 : Kd.C k81 w A0_0 l0_0.length l0_0) (hc0_0 : l0_0.length ≤ c0_0) (hr0_1 : Kd.C (Kd.slice 3 (Kd.int .i64)) w A0_1 l0_1.length l0_1) (hc0_1 : l0_1.length ≤ c0_1) (hr1 : Kd.C (Kd.slice 39 (Kd.int .i8)) w A1 l1.length l1) (hc1 : l1.length ≤ c1) (hr3 : Kd.C (Kd.int .i64) w A3 l3.length l3) (hc3 : l3.length ≤ c3) (h : impl_builder_shortest.f k l0_0 l0_1 l1 a2 l3 = some r),
  Calls Try.prog 43 #[.agg #[.slice A0_0 l0_0.length c0_0, .slice A0_1 l0_1.length c0_1], .slice A1 l1.length c1, .int .i64 a2, .slice A3 l3.length c3] w fun e w' => e = .returned (.string r) ∧ Below w.heap.size w w' := by
 induction k using Nat.strongRecOn with
 | _ k ih =>
 intro A0_0 c0_0 l0_0 A0_1 c0_1 l0_1 A1 c1 l1 a2 A3 c3 l3 r w hr0_0 hc0_0 hr0_1 hc0_1 hr1 hc1 hr3 hc3 h
 cases k with
 | zero => exact absurd h (by simp [impl_builder_shortest.f])
 | succ k =>
 simp only [impl_builder_shortest.f] at h
 have hu72 := Try.underlying72
 have hu81 := Try.underlying81
 have HR0_0 := Aside0.mk hr0_0
 have HC0_0 := Aside0.mk hc0_0
 clear hr0_0 hc0_0
 have HR0_1 := Aside0.mk hr0_1
 have HC0_1 := Aside0.mk hc0_1
 clear hr0_1 hc0_1
 have HR1 := Aside0.mk hr1
 have HC1 := Aside0.mk hc1
 clear hr1 hc1
 have HR3 := Aside0.mk hr3
 have HC3 := Aside0.mk hc3
 clear hr3 hc3
 have HB := Aside0.mk (Below.refl w.heap.size w)
 have H : (if a2 = 0 then (some (⟨#[]⟩ : ByteArray)) else (impl_builder_shortest.l0 k l1 a2 l3 100 l3 (l3.length : Int) 0 l0_0 l0_1)) = some r := h
 clear h
 by_cases c5 : a2 = 0
 ·rw [if_pos c5] at H
  have c5b0 : (a2 == 0) = true := beq_iff_eq.mpr c5
  have c5b1 : (a2 != 0) = false := bne_eq_false_iff_eq.mpr c5
  clear c5
  obtain rfl := Option.some.inj H
  go_enter Try.func43, Try.ntmps43
  go_wp2_with (first | ((with_reducible refine gate_dst (N := 4) rfl ?_); refine box_event ?hg (N := 4) ?hd (cs := #[.slice A0_0 l0_0.length c0_0, .slice A0_1 l0_1.length c0_1]) (t := 72) ?hr ?_; (case hd => rfl); (case hg => rfl); (case hr => first | (go_simp; done) | (go_simp; rfl)); intro gb317 hg w6 hbox hb; have n0_ := Aside0.mk (below_step (by repeat (first | (with_reducible first | exact HB.out | apply bwA | apply pwN | apply bw1) | exact HB.out)) hb); have n1_ := Aside0.mk (hbox); have n2_ := Aside0.mk ((by rw [hg]; exact (below_size (by repeat (first | (with_reducible first | exact HB.out | apply bwA | apply pwN | apply bw1) | exact HB.out))) : w.heap.size ≤ gb317)); have n3_ := Aside0.mk (n2_.out); clear HB; have HB := n0_; have BK317 := n1_; have GW317 := n2_; have GE317 := n3_; clear n0_ n1_ n2_ n3_; clear hb hbox hg))
  go_ret
  exact ⟨by first | rfl | (simp [errW_none, errW_some, i64_w]; done) | (simp [errW_none, errW_some] <;> rfl) | (simp [*, errW_none, errW_some] <;> rfl), by repeat (first | (with_reducible first | exact HB.out | apply bwA | apply pwN | apply bw1 | refine below_set ?_ GE317.out) | exact HB.out)⟩
 ·rw [if_neg c5] at H
  have c5b0 : (a2 == 0) = false := beq_eq_false_iff_ne.mpr c5
  have c5b1 : (a2 != 0) = true := bne_iff_ne.mpr c5
  have H' := Aside0.mk H
  clear H
  go_enter Try.func43, Try.ntmps43
  go_wp2_with (first | ((with_reducible refine gate_dst (N := 4) rfl ?_); refine box_event ?hg (N := 4) ?hd (cs := #[.slice A0_0 l0_0.length c0_0, .slice A0_1 l0_1.length c0_1]) (t := 72) ?hr ?_; (case hd => rfl); (case hg => rfl); (case hr => first | (go_simp; done) | (go_simp; rfl)); intro gb317 hg w7 hbox hb; have n0_ := Aside0.mk (below_step (by repeat (first | (with_reducible first | exact HB.out | apply bwA | apply pwN | apply bw1) | exact HB.out)) hb); have n1_ := Aside0.mk (hbox); have n2_ := Aside0.mk ((by rw [hg]; exact (below_size (by repeat (first | (with_reducible first | exact HB.out | apply bwA | apply pwN | apply bw1) | exact HB.out))) : w.heap.size ≤ gb317)); have n3_ := Aside0.mk (n2_.out); clear HB; have HB := n0_; have BK317 := n1_; have GW317 := n2_; have GE317 := n3_; clear n0_ n1_ n2_ n3_; clear hb hbox hg))
  go_loopg [9, 21] k (fun kq v9 v21 w' => ∃ (x9_1 : Int) (x21_1 : Int), v9 = .int .i8 x9_1 ∧ v21 = .int .i64 x21_1 ∧ Aside0 (impl_builder_shortest.l0 kq l1 a2 l3 x9_1 l3 (l3.length : Int) x21_1 l0_0 l0_1 = some r) ∧ Aside0 (kq ≤ k) ∧ Aside0 (w'.heap[gb317]? = some (.cells #[(.slice A0_0 l0_0.length c0_0), (.slice A0_1 l0_1.length c0_1)] 72 (0, 0))) ∧ Aside0 (Below w.heap.size w w'))
  case atStart => exact ⟨(100), (0), (by first | rfl | (simp; done) | (simp [*]; done)), (by first | rfl | (simp; done) | (simp [*]; done)), H', ⟨Nat.le_refl _⟩, ⟨by (with_reducible repeat (first | refine blk_drewN ?_ _ | refine blk_drew ?_ | refine blk_alloc ?_ _)); exact BK317.out⟩, ⟨by repeat (first | (with_reducible first | exact HB.out | apply bwA | apply pwN | apply bw1 | refine below_set ?_ GE317.out) | exact HB.out)⟩⟩
  case round =>
   clear H'
   try clear c1
   try clear p2
   try clear c3
   try clear c4
   try clear c5
   try clear c5b0
   try clear c5b1
   obtain ⟨x9_1, x21_1, rfl, rfl, HA, HK1, BK317, HB⟩ := hrel
   cases gk with
   | zero => exact absurd HA.out (by simp [impl_builder_shortest.l0])
   | succ k1 =>
    have H := HA.out
    clear HA
    simp only [impl_builder_shortest.l0] at H
    by_cases c8 : x21_1 < (l3.length : Int)
    ·rw [if_pos c8] at H
     have c8b0 : decide (x21_1 < (l3.length : Int)) = true := decide_eq_true c8
     clear c8
     by_cases c9 : 0 ≤ x21_1
     ·rw [if_pos c9] at H
      have c9b0 : decide (0 ≤ x21_1) = true := decide_eq_true c9
      clear c9
      by_cases c10 : x21_1 < (l3.length : Int)
      ·rw [if_pos c10] at H
       have c10b0 : decide (x21_1 < (l3.length : Int)) = true := decide_eq_true c10
       clear c10
       by_cases c11 : 0 ≤ a2
       ·rw [if_pos c11] at H
        have c11b0 : decide (0 ≤ a2) = true := decide_eq_true c11
        clear c11
        by_cases c12 : a2 < (l1.length : Int)
        ·rw [if_pos c12] at H
         have c12b0 : decide (a2 < (l1.length : Int)) = true := decide_eq_true c12
         clear c12
         by_cases c13 : 0 ≤ (rd l3 x21_1)
         ·rw [if_pos c13] at H
          have c13b0 : decide (0 ≤ (rd l3 x21_1)) = true := decide_eq_true c13
          clear c13
          by_cases c14 : (rd l3 x21_1) < ((rd_L18 l1 a2).length : Int)
          ·rw [if_pos c14] at H
           have c14b0 : decide ((rd l3 x21_1) < ((rd_L18 l1 a2).length : Int)) = true := decide_eq_true c14
           clear c14
           obtain ⟨ji15, hji15⟩ : ∃ j_ : Int, (mn x9_1 (rd (rd_L18 l1 a2) (rd l3 x21_1))) = j_ := ⟨_, rfl⟩
           replace H : (impl_builder_shortest.l0 k1 l1 a2 l3 ji15 l3 (l3.length : Int) (wrap64 (x21_1 + 1)) l0_0 l0_1) = some r := by first | (rw [hji15] at H; exact H) | (simp only [hji15] at H ⊢; exact H)
           have hji15_ : (if (rd (rd_L18 l1 a2) (rd l3 x21_1)) < x9_1 then (rd (rd_L18 l1 a2) (rd l3 x21_1)) else x9_1) = ji15 := hji15
           have H' := Aside0.mk H
           clear H
           have p318 : 0 ≤ (x21_1 : Int) := of_decide_eq_true (by first | (with_reducible assumption) | assumption)
           have q318 : x21_1 < (l3.length : Int) := of_decide_eq_true (by first | (with_reducible assumption) | assumption)
           obtain ⟨ad318, e318, hx318_0⟩ := Kd.at_int HR3.out x21_1 p318 q318
           cases e318
           replace hx318_0 := (HB.out.cell (World.block_lt_of_cell? w _ hx318_0)).trans hx318_0
           replace p318 := eq_true p318
           replace q318 := eq_true q318
           have p319 : 0 ≤ (a2 : Int) := of_decide_eq_true (by first | (with_reducible assumption) | assumption)
           have q319 : a2 < (l1.length : Int) := of_decide_eq_true (by first | (with_reducible assumption) | assumption)
           obtain ⟨ad319, A319_0, c319_0, e319, hx319_0, hl319_0, hi319_0⟩ := at_L18 HR1.out a2 p319 q319
           cases e319
           replace hx319_0 := (HB.out.cell (World.block_lt_of_cell? w _ hx319_0)).trans hx319_0
           have HR319_0 := Aside0.mk hi319_0
           have HC319_0 := Aside0.mk hl319_0
           clear hi319_0 hl319_0
           replace p319 := eq_true p319
           replace q319 := eq_true q319
           have p320 : 0 ≤ ((rd l3 x21_1) : Int) := of_decide_eq_true (by first | (with_reducible assumption) | assumption)
           have q320 : (rd l3 x21_1) < ((rd_L18 l1 a2).length : Int) := of_decide_eq_true (by first | (with_reducible assumption) | assumption)
           obtain ⟨ad320, e320, hx320_0⟩ := Kd.at_int HR319_0.out (rd l3 x21_1) p320 q320
           cases e320
           replace hx320_0 := (HB.out.cell (World.block_lt_of_cell? w _ hx320_0)).trans hx320_0
           replace p320 := eq_true p320
           replace q320 := eq_true q320
           go_wp2
           go_roundg k1
           case measure => have := HK1.out; omega
           case rel => exact ⟨(ji15), (wrap64 (x21_1 + 1)), (by first | rfl | (simp; done) | (simp only [← hji15] <;> (first | rfl | simp)) | (simp [*]; done)), (by first | rfl | (simp; done) | (simp [*]; done)), H', ⟨by have := HK1.out; omega⟩, ⟨by (with_reducible repeat (first | refine blk_drewN ?_ _ | refine blk_drew ?_ | refine blk_alloc ?_ _)); exact BK317.out⟩, ⟨by repeat (first | (with_reducible first | exact HB.out | apply bwA | apply pwN | apply bw1 | refine below_set ?_ GE317.out) | exact HB.out)⟩⟩
          ·rw [if_neg c14] at H
           exact absurd H (by simp)
         ·rw [if_neg c13] at H
          exact absurd H (by simp)
        ·rw [if_neg c12] at H
         exact absurd H (by simp)
       ·rw [if_neg c11] at H
        exact absurd H (by simp)
      ·rw [if_neg c10] at H
       exact absurd H (by simp)
     ·rw [if_neg c9] at H
      exact absurd H (by simp)
    ·rw [if_neg c8] at H
     have c8b0 : decide (x21_1 < (l3.length : Int)) = false := decide_eq_false c8
     clear c8
     have H' := Aside0.mk H
     clear H
     go_wp2
     go_loopg [12, 37] k1 (fun kq v12 v37 w' => ∃ (x12_2 : ByteArray) (x37_2 : Int), v12 = .string x12_2 ∧ v37 = .int .i64 x37_2 ∧ Aside0 (impl_builder_shortest.l1 kq l1 a2 x9_1 x12_2 l3 (l3.length : Int) x37_2 l0_0 l0_1 = some r) ∧ Aside0 (kq ≤ k1) ∧ Aside0 (w'.heap[gb317]? = some (.cells #[(.slice A0_0 l0_0.length c0_0), (.slice A0_1 l0_1.length c0_1)] 72 (0, 0))) ∧ Aside0 (Below w.heap.size w w'))
     case atStart => exact ⟨((⟨#[]⟩ : ByteArray)), (0), (by first | rfl | (simp; done) | (simp [*]; done)), (by first | rfl | (simp; done) | (simp [*]; done)), H', ⟨Nat.le_refl _⟩, ⟨by (with_reducible repeat (first | refine blk_drewN ?_ _ | refine blk_drew ?_ | refine blk_alloc ?_ _)); exact BK317.out⟩, ⟨by repeat (first | (with_reducible first | exact HB.out | apply bwA | apply pwN | apply bw1 | refine below_set ?_ GE317.out) | exact HB.out)⟩⟩
     case round =>
      clear H'
      try clear c1
      try clear p2
      try clear c3
      try clear p3
      try clear q3
      try clear hx3
      try clear c4
      try clear c5
      try clear c5b0
      try clear c5b1
      try clear p6
      try clear c8
      try clear c8b0
      try clear c9
      try clear c9b0
      try clear c10
      try clear c10b0
      try clear c11
      try clear c11b0
      try clear c12
      try clear c12b0
      try clear c13
      try clear c13b0
      try clear c14
      try clear c14b0
      try clear hx318_0
      try clear hx319_0
      try clear hx320_0
      try clear p2
      try clear p318
      try clear p319
      try clear p320
      try clear q318
      try clear q319
      try clear q320
      obtain ⟨x12_2, x37_2, rfl, rfl, HA, HK2, BK317, HB⟩ := hrel
      cases gk with
      | zero => exact absurd HA.out (by simp [impl_builder_shortest.l1])
      | succ k2 =>
       have H := HA.out
       clear HA
       simp only [impl_builder_shortest.l1] at H
       by_cases c16 : x37_2 < (l3.length : Int)
       ·rw [if_pos c16] at H
        have c16b0 : decide (x37_2 < (l3.length : Int)) = true := decide_eq_true c16
        clear c16
        by_cases c17 : 0 ≤ x37_2
        ·rw [if_pos c17] at H
         have c17b0 : decide (0 ≤ x37_2) = true := decide_eq_true c17
         clear c17
         by_cases c18 : x37_2 < (l3.length : Int)
         ·rw [if_pos c18] at H
          have c18b0 : decide (x37_2 < (l3.length : Int)) = true := decide_eq_true c18
          clear c18
          by_cases c19 : 0 ≤ a2
          ·rw [if_pos c19] at H
           have c19b0 : decide (0 ≤ a2) = true := decide_eq_true c19
           clear c19
           by_cases c20 : a2 < (l1.length : Int)
           ·rw [if_pos c20] at H
            have c20b0 : decide (a2 < (l1.length : Int)) = true := decide_eq_true c20
            clear c20
            by_cases c21 : 0 ≤ (rd l3 x37_2)
            ·rw [if_pos c21] at H
             have c21b0 : decide (0 ≤ (rd l3 x37_2)) = true := decide_eq_true c21
             clear c21
             by_cases c22 : (rd l3 x37_2) < ((rd_L18 l1 a2).length : Int)
             ·rw [if_pos c22] at H
              have c22b0 : decide ((rd l3 x37_2) < ((rd_L18 l1 a2).length : Int)) = true := decide_eq_true c22
              clear c22
              by_cases c23 : (rd (rd_L18 l1 a2) (rd l3 x37_2)) = x9_1
              ·rw [if_pos c23] at H
               have c23b0 : ((rd (rd_L18 l1 a2) (rd l3 x37_2)) == x9_1) = true := beq_iff_eq.mpr c23
               have c23b1 : ((rd (rd_L18 l1 a2) (rd l3 x37_2)) != x9_1) = false := bne_eq_false_iff_eq.mpr c23
               clear c23
               by_cases c24 : (rd l3 x37_2) < (l0_0.length : Int)
               ·rw [if_pos c24] at H
                have c24b0 : decide ((rd l3 x37_2) < (l0_0.length : Int)) = true := decide_eq_true c24
                clear c24
                by_cases c25 : (rd l3 x37_2) < (l0_1.length : Int)
                ·rw [if_pos c25] at H
                 have c25b0 : decide ((rd l3 x37_2) < (l0_1.length : Int)) = true := decide_eq_true c25
                 clear c25
                 replace H := Option.bind_eq_some_iff.mp H
                 obtain ⟨t327, A260, H⟩ := H
                 (try dsimp only at H)
                 have A26 := Aside0.mk A260
                 clear A260
                 by_cases c27 : ((rd_T81 l0_0 (rd l3 x37_2)).f0).size + t327.size ≤ 9223372036854775807
                 ·rw [if_pos c27] at H
                  have c27b0 := eq_true c27
                  have c27b1 : decide (((rd_T81 l0_0 (rd l3 x37_2)).f0).size + t327.size ≤ 9223372036854775807) = true := decide_eq_true c27
                  try have c27b2 : (9223372036854775807 < ((rd_T81 l0_0 (rd l3 x37_2)).f0).size + t327.size) = False := eq_false (Nat.not_lt.2 c27)
                  by_cases c28 : x12_2.toList = ([] : List UInt8)
                  ·rw [if_pos c28] at H
                   have c28b0 : (x12_2.toList == ([] : List UInt8)) = true := beq_iff_eq.mpr c28
                   have c28b1 : (x12_2.toList != ([] : List UInt8)) = false := bne_eq_false_iff_eq.mpr c28
                   clear c28
                   have H' := Aside0.mk H
                   clear H
                   have p321 : 0 ≤ (x37_2 : Int) := of_decide_eq_true (by first | (with_reducible assumption) | assumption)
                   have q321 : x37_2 < (l3.length : Int) := of_decide_eq_true (by first | (with_reducible assumption) | assumption)
                   obtain ⟨ad321, e321, hx321_0⟩ := Kd.at_int HR3.out x37_2 p321 q321
                   cases e321
                   replace hx321_0 := (HB.out.cell (World.block_lt_of_cell? w _ hx321_0)).trans hx321_0
                   replace p321 := eq_true p321
                   replace q321 := eq_true q321
                   have p322 : 0 ≤ (a2 : Int) := of_decide_eq_true (by first | (with_reducible assumption) | assumption)
                   have q322 : a2 < (l1.length : Int) := of_decide_eq_true (by first | (with_reducible assumption) | assumption)
                   obtain ⟨ad322, A322_0, c322_0, e322, hx322_0, hl322_0, hi322_0⟩ := at_L18 HR1.out a2 p322 q322
                   cases e322
                   replace hx322_0 := (HB.out.cell (World.block_lt_of_cell? w _ hx322_0)).trans hx322_0
                   have HR322_0 := Aside0.mk hi322_0
                   have HC322_0 := Aside0.mk hl322_0
                   clear hi322_0 hl322_0
                   replace p322 := eq_true p322
                   replace q322 := eq_true q322
                   have p323 : 0 ≤ ((rd l3 x37_2) : Int) := of_decide_eq_true (by first | (with_reducible assumption) | assumption)
                   have q323 : (rd l3 x37_2) < ((rd_L18 l1 a2).length : Int) := of_decide_eq_true (by first | (with_reducible assumption) | assumption)
                   obtain ⟨ad323, e323, hx323_0⟩ := Kd.at_int HR322_0.out (rd l3 x37_2) p323 q323
                   cases e323
                   replace hx323_0 := (HB.out.cell (World.block_lt_of_cell? w _ hx323_0)).trans hx323_0
                   replace p323 := eq_true p323
                   replace q323 := eq_true q323
                   have hcz29_0 : wr.cell? ⟨gb317, 0, none⟩ = some (.slice A0_0 l0_0.length c0_0) := (blk_cell BK317.out 0).trans rfl
                   have hcz29_1 : wr.cell? ⟨gb317, 1, none⟩ = some (.slice A0_1 l0_1.length c0_1) := (blk_cell BK317.out 1).trans rfl
                   have hfz29_0 := blk_frozen BK317.out 0
                   have hfz29_1 := blk_frozen BK317.out 1
                   have p324 : 0 ≤ ((rd l3 x37_2) : Int) := of_decide_eq_true (by first | (with_reducible assumption) | assumption)
                   have q324 : (rd l3 x37_2) < (l0_0.length : Int) := of_decide_eq_true (by first | (with_reducible assumption) | assumption)
                   obtain ⟨ad324, e324, hx324_0, hx324_1⟩ := at_T81 HR0_0.out (rd l3 x37_2) p324 q324
                   cases e324
                   replace hx324_0 := (HB.out.cell (World.block_lt_of_cell? w _ hx324_0)).trans hx324_0
                   replace hx324_1 := (HB.out.cell (World.block_lt_of_cell? w _ hx324_1)).trans hx324_1
                   replace p324 := eq_true p324
                   replace q324 := eq_true q324
                   try go_wp2_with (first | ((with_reducible refine gate_dst (N := 15) rfl ?_); refine box_event ?hg (N := 15) ?hd (cs := #[.string (⟨#[]⟩ : ByteArray), .int .i64 0]) (t := 81) ?hr ?_; (case hd => rfl); (case hg => rfl); (case hr => first | (go_simp; done) | (go_simp; rfl)); intro gb325 hg w30 hbox hb; have n0_ := Aside0.mk (blk_below (g := gb317) (by (with_reducible repeat (first | refine blk_drewN ?_ _ | refine blk_drew ?_ | refine blk_alloc ?_ _)); exact BK317.out) hb); have n1_ := Aside0.mk (below_step (by repeat (first | (with_reducible first | exact HB.out | apply bwA | apply pwN | apply bw1 | refine below_set ?_ GE317.out) | exact HB.out)) hb); have n2_ := Aside0.mk (hbox); have n3_ := Aside0.mk ((by rw [hg]; exact (below_size (by repeat (first | (with_reducible first | exact HB.out | apply bwA | apply pwN | apply bw1 | refine below_set ?_ GE317.out) | exact HB.out))) : w.heap.size ≤ gb325)); have n4_ := Aside0.mk (n3_.out); have n5_ := Aside0.mk ((by rw [hg]; exact Nat.ne_of_lt (blk_lt (g := gb317) (by (with_reducible repeat (first | refine blk_drewN ?_ _ | refine blk_drew ?_ | refine blk_alloc ?_ _)); exact BK317.out)) : gb317 ≠ gb325)); have n6_ := Aside0.mk ((Ne.symm n5_.out)); clear BK317; clear HB; have BK317 := n0_; have HB := n1_; have BK325 := n2_; have GW325 := n3_; have GE325 := n4_; have NB317_325 := n5_; have NB325_317 := n6_; clear n0_ n1_ n2_ n3_ n4_ n5_ n6_; clear hb hbox hg; have hnb31 := NB325_317.out; have hnc31 := NB317_325.out; have hcz32_0 : w30.cell? ⟨gb325, 0, none⟩ = some (.string (⟨#[]⟩ : ByteArray)) := (blk_cell BK325.out 0).trans rfl; have hcz32_1 : w30.cell? ⟨gb325, 1, none⟩ = some (.int .i64 0) := (blk_cell BK325.out 1).trans rfl; have hfz32_0 := blk_frozen BK325.out 0; have hfz32_1 := blk_frozen BK325.out 1))
                   have n0_ : Aside0 (((w30.setCell ⟨gb325, 0, none⟩ (.string ((rd_T81 l0_0 (rd l3 x37_2)).f0))).setCell ⟨gb325, 1, none⟩ (.int .i64 ((rd_T81 l0_0 (rd l3 x37_2)).f1))).heap[gb317]? = some (.cells #[.slice (some ad324) l0_0.length c0_0, .slice A0_1 l0_1.length c0_1] 72 (0, 0))) := ⟨by (with_reducible repeat (first | refine blk_drewN ?_ _ | refine blk_drew ?_ | refine blk_alloc ?_ _)); refine blk_far ?_ NB317_325.out _; refine blk_far ?_ NB317_325.out _; (with_reducible repeat (first | refine blk_drewN ?_ _ | refine blk_drew ?_ | refine blk_alloc ?_ _)); exact BK317.out⟩
                   have n1_ : Aside0 (((w30.setCell ⟨gb325, 0, none⟩ (.string ((rd_T81 l0_0 (rd l3 x37_2)).f0))).setCell ⟨gb325, 1, none⟩ (.int .i64 ((rd_T81 l0_0 (rd l3 x37_2)).f1))).heap[gb325]? = some (.cells #[.string ((rd_T81 l0_0 (rd l3 x37_2)).f0), .int .i64 ((rd_T81 l0_0 (rd l3 x37_2)).f1)] 81 (0, 0))) := ⟨by (with_reducible repeat (first | refine blk_drewN ?_ _ | refine blk_drew ?_ | refine blk_alloc ?_ _)); refine blk_put (cs := #[.string ((rd_T81 l0_0 (rd l3 x37_2)).f0), .int .i64 0]) ?_ 1 _ rfl; refine blk_put (cs := #[.string (⟨#[]⟩ : ByteArray), .int .i64 0]) ?_ 0 _ rfl; (with_reducible repeat (first | refine blk_drewN ?_ _ | refine blk_drew ?_ | refine blk_alloc ?_ _)); exact BK325.out⟩
                   have n2_ : Aside0 (Below w.heap.size w ((w30.setCell ⟨gb325, 0, none⟩ (.string ((rd_T81 l0_0 (rd l3 x37_2)).f0))).setCell ⟨gb325, 1, none⟩ (.int .i64 ((rd_T81 l0_0 (rd l3 x37_2)).f1)))) := ⟨by repeat (first | (with_reducible first | exact HB.out | apply bwA | apply pwN | apply bw1 | refine below_set ?_ GE317.out | refine below_set ?_ GE325.out) | exact HB.out)⟩
                   (try clear BK317)
                   (try clear BK325)
                   (try clear HB)
                   generalize ((w30.setCell ⟨gb325, 0, none⟩ (.string ((rd_T81 l0_0 (rd l3 x37_2)).f0))).setCell ⟨gb325, 1, none⟩ (.int .i64 ((rd_T81 l0_0 (rd l3 x37_2)).f1))) = w33 at n0_ n1_ n2_ ⊢
                   have BK317 := n0_
                   have BK325 := n1_
                   have HB := n2_
                   clear n0_ n1_ n2_
                   have n0_ := Aside0.mk (blk_drew BK317.out)
                   have n1_ := Aside0.mk (blk_drew BK325.out)
                   have n2_ := Aside0.mk (bw1 HB.out)
                   clear BK317
                   clear BK325
                   clear HB
                   have BK317 := n0_
                   have BK325 := n1_
                   have HB := n2_
                   clear n0_ n1_ n2_
                   have p326 : 0 ≤ ((rd l3 x37_2) : Int) := of_decide_eq_true (by first | (with_reducible assumption) | assumption)
                   have q326 : (rd l3 x37_2) < (l0_1.length : Int) := of_decide_eq_true (by first | (with_reducible assumption) | assumption)
                   obtain ⟨ad326, A326_0, c326_0, e326, hx326_0, hl326_0, hi326_0⟩ := at_L16 HR0_1.out (rd l3 x37_2) p326 q326
                   have hw326_0 := hx326_0
                   cases e326
                   replace hx326_0 := (HB.out.cell (World.block_lt_of_cell? w _ hx326_0)).trans hx326_0
                   have HR326_0 := Aside0.mk hi326_0
                   have HC326_0 := Aside0.mk hl326_0
                   clear hi326_0 hl326_0
                   replace p326 := eq_true p326
                   replace q326 := eq_true q326
                   refine start_ (n := 16) (S := fun w' => w'.cell? ⟨gb325, 0, none⟩ = some (.string ((rd_T81 l0_0 (rd l3 x37_2)).f0)) ∧ w'.cell? ⟨gb325, 1, none⟩ = some (.int .i64 ((rd_T81 l0_0 (rd l3 x37_2)).f1)) ∧ w'.cell? ⟨gb317, 0, none⟩ = some (.slice (some ad324) l0_0.length c0_0) ∧ w'.cell? ⟨gb317, 1, none⟩ = some (.slice (some ad326) l0_1.length c0_1) ∧ w'.cell? (ad326.add ((rd l3 x37_2)).toNat) = some (.slice A326_0 (rd_L16 l0_1 (rd l3 x37_2)).length c326_0)) (ds := []) #[false, false, false, false, false, false, false, false, false, false, false, false, false, false, false, false] (by kernel_rfl) rfl rfl ⟨(blk_cell BK325.out 0).trans rfl, (blk_cell BK325.out 1).trans rfl, (blk_cell BK317.out 0).trans rfl, (blk_cell BK317.out 1).trans rfl, ((HB.out.cell (World.block_lt_of_cell? w _ hw326_0)).trans hw326_0)⟩ (fun hHeld => ?_); refine with_tabW impl_builder_shortest.tab15 impl_builder_shortest.bits15 (fun HT_ HW_ => ?_)
                   generalize w33.drew = w34 at BK317 BK325 HB HR326_0 hx326_0 hHeld ⊢
                   refine pu_ 0 (some 55) HT_ ?_
                   refine pu_ 3 (some 58) HT_ ?_
                   refine pu_ 4 (some 59) HT_ ?_
                   refine pu_ 5 (some 60) HT_ ?_
                   refine pu_ 8 (some 63) HT_ ?_
                   refine pu_ 10 (some 65) HT_ ?_
                   refine tk_ 1 (some 56) HT_ HW_ hHeld rfl (by rintro w' ⟨s0, s1, s2, s3, s4⟩; go_simp; with_reducible rfl) ?_
                   refine tk_ 2 (some 57) HT_ HW_ hHeld rfl (by rintro w' ⟨s0, s1, s2, s3, s4⟩; go_simp; with_reducible rfl) ?_
                   refine tk_ 6 (some 61) HT_ HW_ hHeld rfl (by rintro w' ⟨s0, s1, s2, s3, s4⟩; go_simp; with_reducible rfl) ?_
                   refine pu_ 7 (some 62) HT_ ?_
                   refine tk_ 9 (some 64) HT_ HW_ hHeld rfl (by rintro w' ⟨s0, s1, s2, s3, s4⟩; go_simp; with_reducible rfl) ?_
                   refine pu_ 11 (some 66) HT_ ?_
                   refine tk_ 12 (some 67) HT_ HW_ hHeld rfl (by rintro w' ⟨s0, s1, s2, s3, s4⟩; go_simp; with_reducible rfl) ?_
                   refine on_ 13 (some 68) HT_ fun K hK => ?_
                   refine goes_ Try.func43 (by kernel_rfl) rfl #[.agg #[.slice (some ad324) l0_0.length c0_0, .slice (some ad326) l0_1.length c0_1], .slice (some ad322) l1.length c1, .int .i64 (wrap64 (a2 - ((rd_T81 l0_0 (rd l3 x37_2)).f1))), .slice A326_0 (rd_L16 l0_1 (rd l3 x37_2)).length c326_0] (by rfl) rfl rfl (by (try simp only [List.map_toArray, List.map_cons, List.map_nil]); first | done | rfl | (simp only [List.length_drop, List.length_take]; rfl)) ?_
                   with_reducible refine (ih k2 (by have := HK1.out; have := HK2.out; omega) _ _ l0_0 _ _ l0_1 _ _ l1 (wrap64 (a2 - ((rd_T81 l0_0 (rd l3 x37_2)).f1))) _ _ (rd_L16 l0_1 (rd l3 x37_2)) t327 _ ?side1 ?side2 ?side3 ?side4 ?side5 ?side6 ?side7 ?side8 A26.out).mono ?_
                   (case side1 => repeat (first | exact (Kd.C_below HR0_0.out HB.out) | (with_reducible refine Kd.C_alloc ?_ _) | (with_reducible refine Kd.C_drewN ?_ _) | (with_reducible refine Kd.C_drew ?_)))
                   (case side2 => exact HC0_0.out)
                   (case side3 => repeat (first | exact (Kd.C_below HR0_1.out HB.out) | (with_reducible refine Kd.C_alloc ?_ _) | (with_reducible refine Kd.C_drewN ?_ _) | (with_reducible refine Kd.C_drew ?_)))
                   (case side4 => exact HC0_1.out)
                   (case side5 => repeat (first | exact (Kd.C_below HR1.out HB.out) | (with_reducible refine Kd.C_alloc ?_ _) | (with_reducible refine Kd.C_drewN ?_ _) | (with_reducible refine Kd.C_drew ?_)))
                   (case side6 => exact HC1.out)
                   (case side7 => repeat (first | exact (Kd.C_below HR326_0.out HB.out) | (with_reducible refine Kd.C_alloc ?_ _) | (with_reducible refine Kd.C_drewN ?_ _) | (with_reducible refine Kd.C_drew ?_)))
                   (case side8 => exact HC326_0.out)
                   rintro e w35 ⟨rfl, hb⟩
                   refine ⟨_, rfl, ?_⟩
                   have n0_ := Aside0.mk (blk_below (g := gb317) (by (with_reducible repeat (first | refine blk_drewN ?_ _ | refine blk_drew ?_ | refine blk_alloc ?_ _)); exact BK317.out) hb)
                   have n1_ := Aside0.mk (blk_below (g := gb325) (by (with_reducible repeat (first | refine blk_drewN ?_ _ | refine blk_drew ?_ | refine blk_alloc ?_ _)); exact BK325.out) hb)
                   have n2_ := Aside0.mk (below_step (by repeat (first | (with_reducible first | exact HB.out | apply bwA | apply pwN | apply bw1 | refine below_set ?_ GE317.out | refine below_set ?_ GE325.out) | exact HB.out)) hb)
                   clear BK317
                   clear BK325
                   clear HB
                   have BK317 := n0_
                   have BK325 := n1_
                   have HB := n2_
                   clear n0_ n1_ n2_
                   (try clear hb)
                   (try clear hb2)
                   (try clear hk)
                   (try clear hi)
                   refine hK.out _ _ ⟨(blk_cell BK325.out 0).trans rfl, (blk_cell BK325.out 1).trans rfl, (blk_cell BK317.out 0).trans rfl, (blk_cell BK317.out 1).trans rfl, ((HB.out.cell (World.block_lt_of_cell? w _ hw326_0)).trans hw326_0)⟩ (fun hHeld => ?_)
                   clear hK K
                   refine nm_ (some 68) ?_
                   refine pu_ 14 (some 69) HT_ ?_
                   refine pu_ 15 (some 16) HT_ ?_
                   refine done_ (done_of HT_.out (by kernel_rfl)) ?_
                   try go_wp2
                   go_roundg k2
                   case measure => have := HK1.out; have := HK2.out; omega
                   case rel => exact ⟨(((rd_T81 l0_0 (rd l3 x37_2)).f0) ++ t327), (wrap64 (x37_2 + 1)), (by first | rfl | (simp; done) | (simp [*]; done)), (by first | rfl | (simp; done) | (simp [*]; done)), H', ⟨by have := HK1.out; have := HK2.out; omega⟩, ⟨by (with_reducible repeat (first | refine blk_drewN ?_ _ | refine blk_drew ?_ | refine blk_alloc ?_ _)); exact BK317.out⟩, ⟨by repeat (first | (with_reducible first | exact HB.out | apply bwA | apply pwN | apply bw1 | refine below_set ?_ GE317.out | refine below_set ?_ GE325.out) | exact HB.out)⟩⟩
                  ·rw [if_neg c28] at H
                   have c28b0 : (x12_2.toList == ([] : List UInt8)) = false := beq_eq_false_iff_ne.mpr c28
                   have c28b1 : (x12_2.toList != ([] : List UInt8)) = true := bne_iff_ne.mpr c28
                   by_cases c36 : (Op.bytesLess ((((rd_T81 l0_0 (rd l3 x37_2)).f0) ++ t327).toList) x12_2.toList) = true
                   ·rw [if_pos c36] at H
                    have c36b0 : (Op.bytesLess ((((rd_T81 l0_0 (rd l3 x37_2)).f0) ++ t327).toList) x12_2.toList) = true := c36
                    clear c36
                    have H' := Aside0.mk H
                    clear H
                    have p321 : 0 ≤ (x37_2 : Int) := of_decide_eq_true (by first | (with_reducible assumption) | assumption)
                    have q321 : x37_2 < (l3.length : Int) := of_decide_eq_true (by first | (with_reducible assumption) | assumption)
                    obtain ⟨ad321, e321, hx321_0⟩ := Kd.at_int HR3.out x37_2 p321 q321
                    cases e321
                    replace hx321_0 := (HB.out.cell (World.block_lt_of_cell? w _ hx321_0)).trans hx321_0
                    replace p321 := eq_true p321
                    replace q321 := eq_true q321
                    have p322 : 0 ≤ (a2 : Int) := of_decide_eq_true (by first | (with_reducible assumption) | assumption)
                    have q322 : a2 < (l1.length : Int) := of_decide_eq_true (by first | (with_reducible assumption) | assumption)
                    obtain ⟨ad322, A322_0, c322_0, e322, hx322_0, hl322_0, hi322_0⟩ := at_L18 HR1.out a2 p322 q322
                    cases e322
                    replace hx322_0 := (HB.out.cell (World.block_lt_of_cell? w _ hx322_0)).trans hx322_0
                    have HR322_0 := Aside0.mk hi322_0
                    have HC322_0 := Aside0.mk hl322_0
                    clear hi322_0 hl322_0
                    replace p322 := eq_true p322
                    replace q322 := eq_true q322
                    have p323 : 0 ≤ ((rd l3 x37_2) : Int) := of_decide_eq_true (by first | (with_reducible assumption) | assumption)
                    have q323 : (rd l3 x37_2) < ((rd_L18 l1 a2).length : Int) := of_decide_eq_true (by first | (with_reducible assumption) | assumption)
                    obtain ⟨ad323, e323, hx323_0⟩ := Kd.at_int HR322_0.out (rd l3 x37_2) p323 q323
                    cases e323
                    replace hx323_0 := (HB.out.cell (World.block_lt_of_cell? w _ hx323_0)).trans hx323_0
                    replace p323 := eq_true p323
                    replace q323 := eq_true q323
                    have hcz37_0 : wr.cell? ⟨gb317, 0, none⟩ = some (.slice A0_0 l0_0.length c0_0) := (blk_cell BK317.out 0).trans rfl
                    have hcz37_1 : wr.cell? ⟨gb317, 1, none⟩ = some (.slice A0_1 l0_1.length c0_1) := (blk_cell BK317.out 1).trans rfl
                    have hfz37_0 := blk_frozen BK317.out 0
                    have hfz37_1 := blk_frozen BK317.out 1
                    have p324 : 0 ≤ ((rd l3 x37_2) : Int) := of_decide_eq_true (by first | (with_reducible assumption) | assumption)
                    have q324 : (rd l3 x37_2) < (l0_0.length : Int) := of_decide_eq_true (by first | (with_reducible assumption) | assumption)
                    obtain ⟨ad324, e324, hx324_0, hx324_1⟩ := at_T81 HR0_0.out (rd l3 x37_2) p324 q324
                    cases e324
                    replace hx324_0 := (HB.out.cell (World.block_lt_of_cell? w _ hx324_0)).trans hx324_0
                    replace hx324_1 := (HB.out.cell (World.block_lt_of_cell? w _ hx324_1)).trans hx324_1
                    replace p324 := eq_true p324
                    replace q324 := eq_true q324
                    try go_wp2_with (first | ((with_reducible refine gate_dst (N := 15) rfl ?_); refine box_event ?hg (N := 15) ?hd (cs := #[.string (⟨#[]⟩ : ByteArray), .int .i64 0]) (t := 81) ?hr ?_; (case hd => rfl); (case hg => rfl); (case hr => first | (go_simp; done) | (go_simp; rfl)); intro gb325 hg w38 hbox hb; have n0_ := Aside0.mk (blk_below (g := gb317) (by (with_reducible repeat (first | refine blk_drewN ?_ _ | refine blk_drew ?_ | refine blk_alloc ?_ _)); exact BK317.out) hb); have n1_ := Aside0.mk (below_step (by repeat (first | (with_reducible first | exact HB.out | apply bwA | apply pwN | apply bw1 | refine below_set ?_ GE317.out) | exact HB.out)) hb); have n2_ := Aside0.mk (hbox); have n3_ := Aside0.mk ((by rw [hg]; exact (below_size (by repeat (first | (with_reducible first | exact HB.out | apply bwA | apply pwN | apply bw1 | refine below_set ?_ GE317.out) | exact HB.out))) : w.heap.size ≤ gb325)); have n4_ := Aside0.mk (n3_.out); have n5_ := Aside0.mk ((by rw [hg]; exact Nat.ne_of_lt (blk_lt (g := gb317) (by (with_reducible repeat (first | refine blk_drewN ?_ _ | refine blk_drew ?_ | refine blk_alloc ?_ _)); exact BK317.out)) : gb317 ≠ gb325)); have n6_ := Aside0.mk ((Ne.symm n5_.out)); clear BK317; clear HB; have BK317 := n0_; have HB := n1_; have BK325 := n2_; have GW325 := n3_; have GE325 := n4_; have NB317_325 := n5_; have NB325_317 := n6_; clear n0_ n1_ n2_ n3_ n4_ n5_ n6_; clear hb hbox hg; have hnb39 := NB325_317.out; have hnc39 := NB317_325.out; have hcz40_0 : w38.cell? ⟨gb325, 0, none⟩ = some (.string (⟨#[]⟩ : ByteArray)) := (blk_cell BK325.out 0).trans rfl; have hcz40_1 : w38.cell? ⟨gb325, 1, none⟩ = some (.int .i64 0) := (blk_cell BK325.out 1).trans rfl; have hfz40_0 := blk_frozen BK325.out 0; have hfz40_1 := blk_frozen BK325.out 1))
                    have n0_ : Aside0 (((w38.setCell ⟨gb325, 0, none⟩ (.string ((rd_T81 l0_0 (rd l3 x37_2)).f0))).setCell ⟨gb325, 1, none⟩ (.int .i64 ((rd_T81 l0_0 (rd l3 x37_2)).f1))).heap[gb317]? = some (.cells #[.slice (some ad324) l0_0.length c0_0, .slice A0_1 l0_1.length c0_1] 72 (0, 0))) := ⟨by (with_reducible repeat (first | refine blk_drewN ?_ _ | refine blk_drew ?_ | refine blk_alloc ?_ _)); refine blk_far ?_ NB317_325.out _; refine blk_far ?_ NB317_325.out _; (with_reducible repeat (first | refine blk_drewN ?_ _ | refine blk_drew ?_ | refine blk_alloc ?_ _)); exact BK317.out⟩
                    have n1_ : Aside0 (((w38.setCell ⟨gb325, 0, none⟩ (.string ((rd_T81 l0_0 (rd l3 x37_2)).f0))).setCell ⟨gb325, 1, none⟩ (.int .i64 ((rd_T81 l0_0 (rd l3 x37_2)).f1))).heap[gb325]? = some (.cells #[.string ((rd_T81 l0_0 (rd l3 x37_2)).f0), .int .i64 ((rd_T81 l0_0 (rd l3 x37_2)).f1)] 81 (0, 0))) := ⟨by (with_reducible repeat (first | refine blk_drewN ?_ _ | refine blk_drew ?_ | refine blk_alloc ?_ _)); refine blk_put (cs := #[.string ((rd_T81 l0_0 (rd l3 x37_2)).f0), .int .i64 0]) ?_ 1 _ rfl; refine blk_put (cs := #[.string (⟨#[]⟩ : ByteArray), .int .i64 0]) ?_ 0 _ rfl; (with_reducible repeat (first | refine blk_drewN ?_ _ | refine blk_drew ?_ | refine blk_alloc ?_ _)); exact BK325.out⟩
                    have n2_ : Aside0 (Below w.heap.size w ((w38.setCell ⟨gb325, 0, none⟩ (.string ((rd_T81 l0_0 (rd l3 x37_2)).f0))).setCell ⟨gb325, 1, none⟩ (.int .i64 ((rd_T81 l0_0 (rd l3 x37_2)).f1)))) := ⟨by repeat (first | (with_reducible first | exact HB.out | apply bwA | apply pwN | apply bw1 | refine below_set ?_ GE317.out | refine below_set ?_ GE325.out) | exact HB.out)⟩
                    (try clear BK317)
                    (try clear BK325)
                    (try clear HB)
                    generalize ((w38.setCell ⟨gb325, 0, none⟩ (.string ((rd_T81 l0_0 (rd l3 x37_2)).f0))).setCell ⟨gb325, 1, none⟩ (.int .i64 ((rd_T81 l0_0 (rd l3 x37_2)).f1))) = w41 at n0_ n1_ n2_ ⊢
                    have BK317 := n0_
                    have BK325 := n1_
                    have HB := n2_
                    clear n0_ n1_ n2_
                    have n0_ := Aside0.mk (blk_drew BK317.out)
                    have n1_ := Aside0.mk (blk_drew BK325.out)
                    have n2_ := Aside0.mk (bw1 HB.out)
                    clear BK317
                    clear BK325
                    clear HB
                    have BK317 := n0_
                    have BK325 := n1_
                    have HB := n2_
                    clear n0_ n1_ n2_
                    have p326 : 0 ≤ ((rd l3 x37_2) : Int) := of_decide_eq_true (by first | (with_reducible assumption) | assumption)
                    have q326 : (rd l3 x37_2) < (l0_1.length : Int) := of_decide_eq_true (by first | (with_reducible assumption) | assumption)
                    obtain ⟨ad326, A326_0, c326_0, e326, hx326_0, hl326_0, hi326_0⟩ := at_L16 HR0_1.out (rd l3 x37_2) p326 q326
                    have hw326_0 := hx326_0
                    cases e326
                    replace hx326_0 := (HB.out.cell (World.block_lt_of_cell? w _ hx326_0)).trans hx326_0
                    have HR326_0 := Aside0.mk hi326_0
                    have HC326_0 := Aside0.mk hl326_0
                    clear hi326_0 hl326_0
                    replace p326 := eq_true p326
                    replace q326 := eq_true q326
                    refine start_ (n := 16) (S := fun w' => w'.cell? ⟨gb325, 0, none⟩ = some (.string ((rd_T81 l0_0 (rd l3 x37_2)).f0)) ∧ w'.cell? ⟨gb325, 1, none⟩ = some (.int .i64 ((rd_T81 l0_0 (rd l3 x37_2)).f1)) ∧ w'.cell? ⟨gb317, 0, none⟩ = some (.slice (some ad324) l0_0.length c0_0) ∧ w'.cell? ⟨gb317, 1, none⟩ = some (.slice (some ad326) l0_1.length c0_1) ∧ w'.cell? (ad326.add ((rd l3 x37_2)).toNat) = some (.slice A326_0 (rd_L16 l0_1 (rd l3 x37_2)).length c326_0)) (ds := []) #[false, false, false, false, false, false, false, false, false, false, false, false, false, false, false, false] (by kernel_rfl) rfl rfl ⟨(blk_cell BK325.out 0).trans rfl, (blk_cell BK325.out 1).trans rfl, (blk_cell BK317.out 0).trans rfl, (blk_cell BK317.out 1).trans rfl, ((HB.out.cell (World.block_lt_of_cell? w _ hw326_0)).trans hw326_0)⟩ (fun hHeld => ?_); refine with_tabW impl_builder_shortest.tab15 impl_builder_shortest.bits15 (fun HT_ HW_ => ?_)
                    generalize w41.drew = w42 at BK317 BK325 HB HR326_0 hx326_0 hHeld ⊢
                    refine pu_ 0 (some 55) HT_ ?_
                    refine pu_ 3 (some 58) HT_ ?_
                    refine pu_ 4 (some 59) HT_ ?_
                    refine pu_ 5 (some 60) HT_ ?_
                    refine pu_ 8 (some 63) HT_ ?_
                    refine pu_ 10 (some 65) HT_ ?_
                    refine tk_ 1 (some 56) HT_ HW_ hHeld rfl (by rintro w' ⟨s0, s1, s2, s3, s4⟩; go_simp; with_reducible rfl) ?_
                    refine tk_ 2 (some 57) HT_ HW_ hHeld rfl (by rintro w' ⟨s0, s1, s2, s3, s4⟩; go_simp; with_reducible rfl) ?_
                    refine tk_ 6 (some 61) HT_ HW_ hHeld rfl (by rintro w' ⟨s0, s1, s2, s3, s4⟩; go_simp; with_reducible rfl) ?_
                    refine pu_ 7 (some 62) HT_ ?_
                    refine tk_ 9 (some 64) HT_ HW_ hHeld rfl (by rintro w' ⟨s0, s1, s2, s3, s4⟩; go_simp; with_reducible rfl) ?_
                    refine pu_ 11 (some 66) HT_ ?_
                    refine tk_ 12 (some 67) HT_ HW_ hHeld rfl (by rintro w' ⟨s0, s1, s2, s3, s4⟩; go_simp; with_reducible rfl) ?_
                    refine on_ 13 (some 68) HT_ fun K hK => ?_
                    refine goes_ Try.func43 (by kernel_rfl) rfl #[.agg #[.slice (some ad324) l0_0.length c0_0, .slice (some ad326) l0_1.length c0_1], .slice (some ad322) l1.length c1, .int .i64 (wrap64 (a2 - ((rd_T81 l0_0 (rd l3 x37_2)).f1))), .slice A326_0 (rd_L16 l0_1 (rd l3 x37_2)).length c326_0] (by rfl) rfl rfl (by (try simp only [List.map_toArray, List.map_cons, List.map_nil]); first | done | rfl | (simp only [List.length_drop, List.length_take]; rfl)) ?_
                    with_reducible refine (ih k2 (by have := HK1.out; have := HK2.out; omega) _ _ l0_0 _ _ l0_1 _ _ l1 (wrap64 (a2 - ((rd_T81 l0_0 (rd l3 x37_2)).f1))) _ _ (rd_L16 l0_1 (rd l3 x37_2)) t327 _ ?side1 ?side2 ?side3 ?side4 ?side5 ?side6 ?side7 ?side8 A26.out).mono ?_
                    (case side1 => repeat (first | exact (Kd.C_below HR0_0.out HB.out) | (with_reducible refine Kd.C_alloc ?_ _) | (with_reducible refine Kd.C_drewN ?_ _) | (with_reducible refine Kd.C_drew ?_)))
                    (case side2 => exact HC0_0.out)
                    (case side3 => repeat (first | exact (Kd.C_below HR0_1.out HB.out) | (with_reducible refine Kd.C_alloc ?_ _) | (with_reducible refine Kd.C_drewN ?_ _) | (with_reducible refine Kd.C_drew ?_)))
                    (case side4 => exact HC0_1.out)
                    (case side5 => repeat (first | exact (Kd.C_below HR1.out HB.out) | (with_reducible refine Kd.C_alloc ?_ _) | (with_reducible refine Kd.C_drewN ?_ _) | (with_reducible refine Kd.C_drew ?_)))
                    (case side6 => exact HC1.out)
                    (case side7 => repeat (first | exact (Kd.C_below HR326_0.out HB.out) | (with_reducible refine Kd.C_alloc ?_ _) | (with_reducible refine Kd.C_drewN ?_ _) | (with_reducible refine Kd.C_drew ?_)))
                    (case side8 => exact HC326_0.out)
                    rintro e w43 ⟨rfl, hb⟩
                    refine ⟨_, rfl, ?_⟩
                    have n0_ := Aside0.mk (blk_below (g := gb317) (by (with_reducible repeat (first | refine blk_drewN ?_ _ | refine blk_drew ?_ | refine blk_alloc ?_ _)); exact BK317.out) hb)
                    have n1_ := Aside0.mk (blk_below (g := gb325) (by (with_reducible repeat (first | refine blk_drewN ?_ _ | refine blk_drew ?_ | refine blk_alloc ?_ _)); exact BK325.out) hb)
                    have n2_ := Aside0.mk (below_step (by repeat (first | (with_reducible first | exact HB.out | apply bwA | apply pwN | apply bw1 | refine below_set ?_ GE317.out | refine below_set ?_ GE325.out) | exact HB.out)) hb)
                    clear BK317
                    clear BK325
                    clear HB
                    have BK317 := n0_
                    have BK325 := n1_
                    have HB := n2_
                    clear n0_ n1_ n2_
                    (try clear hb)
                    (try clear hb2)
                    (try clear hk)
                    (try clear hi)
                    refine hK.out _ _ ⟨(blk_cell BK325.out 0).trans rfl, (blk_cell BK325.out 1).trans rfl, (blk_cell BK317.out 0).trans rfl, (blk_cell BK317.out 1).trans rfl, ((HB.out.cell (World.block_lt_of_cell? w _ hw326_0)).trans hw326_0)⟩ (fun hHeld => ?_)
                    clear hK K
                    refine nm_ (some 68) ?_
                    refine pu_ 14 (some 69) HT_ ?_
                    refine pu_ 15 (some 16) HT_ ?_
                    refine done_ (done_of HT_.out (by kernel_rfl)) ?_
                    try go_wp2
                    go_roundg k2
                    case measure => have := HK1.out; have := HK2.out; omega
                    case rel => exact ⟨(((rd_T81 l0_0 (rd l3 x37_2)).f0) ++ t327), (wrap64 (x37_2 + 1)), (by first | rfl | (simp; done) | (simp [*]; done)), (by first | rfl | (simp; done) | (simp [*]; done)), H', ⟨by have := HK1.out; have := HK2.out; omega⟩, ⟨by (with_reducible repeat (first | refine blk_drewN ?_ _ | refine blk_drew ?_ | refine blk_alloc ?_ _)); exact BK317.out⟩, ⟨by repeat (first | (with_reducible first | exact HB.out | apply bwA | apply pwN | apply bw1 | refine below_set ?_ GE317.out | refine below_set ?_ GE325.out) | exact HB.out)⟩⟩
                   ·rw [if_neg c36] at H
                    have c36b0 : (Op.bytesLess ((((rd_T81 l0_0 (rd l3 x37_2)).f0) ++ t327).toList) x12_2.toList) = false := by simpa using c36
                    clear c36
                    have H' := Aside0.mk H
                    clear H
                    have p321 : 0 ≤ (x37_2 : Int) := of_decide_eq_true (by first | (with_reducible assumption) | assumption)
                    have q321 : x37_2 < (l3.length : Int) := of_decide_eq_true (by first | (with_reducible assumption) | assumption)
                    obtain ⟨ad321, e321, hx321_0⟩ := Kd.at_int HR3.out x37_2 p321 q321
                    cases e321
                    replace hx321_0 := (HB.out.cell (World.block_lt_of_cell? w _ hx321_0)).trans hx321_0
                    replace p321 := eq_true p321
                    replace q321 := eq_true q321
                    have p322 : 0 ≤ (a2 : Int) := of_decide_eq_true (by first | (with_reducible assumption) | assumption)
                    have q322 : a2 < (l1.length : Int) := of_decide_eq_true (by first | (with_reducible assumption) | assumption)
                    obtain ⟨ad322, A322_0, c322_0, e322, hx322_0, hl322_0, hi322_0⟩ := at_L18 HR1.out a2 p322 q322
                    cases e322
                    replace hx322_0 := (HB.out.cell (World.block_lt_of_cell? w _ hx322_0)).trans hx322_0
                    have HR322_0 := Aside0.mk hi322_0
                    have HC322_0 := Aside0.mk hl322_0
                    clear hi322_0 hl322_0
                    replace p322 := eq_true p322
                    replace q322 := eq_true q322
                    have p323 : 0 ≤ ((rd l3 x37_2) : Int) := of_decide_eq_true (by first | (with_reducible assumption) | assumption)
                    have q323 : (rd l3 x37_2) < ((rd_L18 l1 a2).length : Int) := of_decide_eq_true (by first | (with_reducible assumption) | assumption)
                    obtain ⟨ad323, e323, hx323_0⟩ := Kd.at_int HR322_0.out (rd l3 x37_2) p323 q323
                    cases e323
                    replace hx323_0 := (HB.out.cell (World.block_lt_of_cell? w _ hx323_0)).trans hx323_0
                    replace p323 := eq_true p323
                    replace q323 := eq_true q323
                    have hcz44_0 : wr.cell? ⟨gb317, 0, none⟩ = some (.slice A0_0 l0_0.length c0_0) := (blk_cell BK317.out 0).trans rfl
                    have hcz44_1 : wr.cell? ⟨gb317, 1, none⟩ = some (.slice A0_1 l0_1.length c0_1) := (blk_cell BK317.out 1).trans rfl
                    have hfz44_0 := blk_frozen BK317.out 0
                    have hfz44_1 := blk_frozen BK317.out 1
                    have p324 : 0 ≤ ((rd l3 x37_2) : Int) := of_decide_eq_true (by first | (with_reducible assumption) | assumption)
                    have q324 : (rd l3 x37_2) < (l0_0.length : Int) := of_decide_eq_true (by first | (with_reducible assumption) | assumption)
                    obtain ⟨ad324, e324, hx324_0, hx324_1⟩ := at_T81 HR0_0.out (rd l3 x37_2) p324 q324
                    cases e324
                    replace hx324_0 := (HB.out.cell (World.block_lt_of_cell? w _ hx324_0)).trans hx324_0
                    replace hx324_1 := (HB.out.cell (World.block_lt_of_cell? w _ hx324_1)).trans hx324_1
                    replace p324 := eq_true p324
                    replace q324 := eq_true q324
                    try go_wp2_with (first | ((with_reducible refine gate_dst (N := 15) rfl ?_); refine box_event ?hg (N := 15) ?hd (cs := #[.string (⟨#[]⟩ : ByteArray), .int .i64 0]) (t := 81) ?hr ?_; (case hd => rfl); (case hg => rfl); (case hr => first | (go_simp; done) | (go_simp; rfl)); intro gb325 hg w45 hbox hb; have n0_ := Aside0.mk (blk_below (g := gb317) (by (with_reducible repeat (first | refine blk_drewN ?_ _ | refine blk_drew ?_ | refine blk_alloc ?_ _)); exact BK317.out) hb); have n1_ := Aside0.mk (below_step (by repeat (first | (with_reducible first | exact HB.out | apply bwA | apply pwN | apply bw1 | refine below_set ?_ GE317.out) | exact HB.out)) hb); have n2_ := Aside0.mk (hbox); have n3_ := Aside0.mk ((by rw [hg]; exact (below_size (by repeat (first | (with_reducible first | exact HB.out | apply bwA | apply pwN | apply bw1 | refine below_set ?_ GE317.out) | exact HB.out))) : w.heap.size ≤ gb325)); have n4_ := Aside0.mk (n3_.out); have n5_ := Aside0.mk ((by rw [hg]; exact Nat.ne_of_lt (blk_lt (g := gb317) (by (with_reducible repeat (first | refine blk_drewN ?_ _ | refine blk_drew ?_ | refine blk_alloc ?_ _)); exact BK317.out)) : gb317 ≠ gb325)); have n6_ := Aside0.mk ((Ne.symm n5_.out)); clear BK317; clear HB; have BK317 := n0_; have HB := n1_; have BK325 := n2_; have GW325 := n3_; have GE325 := n4_; have NB317_325 := n5_; have NB325_317 := n6_; clear n0_ n1_ n2_ n3_ n4_ n5_ n6_; clear hb hbox hg; have hnb46 := NB325_317.out; have hnc46 := NB317_325.out; have hcz47_0 : w45.cell? ⟨gb325, 0, none⟩ = some (.string (⟨#[]⟩ : ByteArray)) := (blk_cell BK325.out 0).trans rfl; have hcz47_1 : w45.cell? ⟨gb325, 1, none⟩ = some (.int .i64 0) := (blk_cell BK325.out 1).trans rfl; have hfz47_0 := blk_frozen BK325.out 0; have hfz47_1 := blk_frozen BK325.out 1))
                    have n0_ : Aside0 (((w45.setCell ⟨gb325, 0, none⟩ (.string ((rd_T81 l0_0 (rd l3 x37_2)).f0))).setCell ⟨gb325, 1, none⟩ (.int .i64 ((rd_T81 l0_0 (rd l3 x37_2)).f1))).heap[gb317]? = some (.cells #[.slice (some ad324) l0_0.length c0_0, .slice A0_1 l0_1.length c0_1] 72 (0, 0))) := ⟨by (with_reducible repeat (first | refine blk_drewN ?_ _ | refine blk_drew ?_ | refine blk_alloc ?_ _)); refine blk_far ?_ NB317_325.out _; refine blk_far ?_ NB317_325.out _; (with_reducible repeat (first | refine blk_drewN ?_ _ | refine blk_drew ?_ | refine blk_alloc ?_ _)); exact BK317.out⟩
                    have n1_ : Aside0 (((w45.setCell ⟨gb325, 0, none⟩ (.string ((rd_T81 l0_0 (rd l3 x37_2)).f0))).setCell ⟨gb325, 1, none⟩ (.int .i64 ((rd_T81 l0_0 (rd l3 x37_2)).f1))).heap[gb325]? = some (.cells #[.string ((rd_T81 l0_0 (rd l3 x37_2)).f0), .int .i64 ((rd_T81 l0_0 (rd l3 x37_2)).f1)] 81 (0, 0))) := ⟨by (with_reducible repeat (first | refine blk_drewN ?_ _ | refine blk_drew ?_ | refine blk_alloc ?_ _)); refine blk_put (cs := #[.string ((rd_T81 l0_0 (rd l3 x37_2)).f0), .int .i64 0]) ?_ 1 _ rfl; refine blk_put (cs := #[.string (⟨#[]⟩ : ByteArray), .int .i64 0]) ?_ 0 _ rfl; (with_reducible repeat (first | refine blk_drewN ?_ _ | refine blk_drew ?_ | refine blk_alloc ?_ _)); exact BK325.out⟩
                    have n2_ : Aside0 (Below w.heap.size w ((w45.setCell ⟨gb325, 0, none⟩ (.string ((rd_T81 l0_0 (rd l3 x37_2)).f0))).setCell ⟨gb325, 1, none⟩ (.int .i64 ((rd_T81 l0_0 (rd l3 x37_2)).f1)))) := ⟨by repeat (first | (with_reducible first | exact HB.out | apply bwA | apply pwN | apply bw1 | refine below_set ?_ GE317.out | refine below_set ?_ GE325.out) | exact HB.out)⟩
                    (try clear BK317)
                    (try clear BK325)
                    (try clear HB)
                    generalize ((w45.setCell ⟨gb325, 0, none⟩ (.string ((rd_T81 l0_0 (rd l3 x37_2)).f0))).setCell ⟨gb325, 1, none⟩ (.int .i64 ((rd_T81 l0_0 (rd l3 x37_2)).f1))) = w48 at n0_ n1_ n2_ ⊢
                    have BK317 := n0_
                    have BK325 := n1_
                    have HB := n2_
                    clear n0_ n1_ n2_
                    have n0_ := Aside0.mk (blk_drew BK317.out)
                    have n1_ := Aside0.mk (blk_drew BK325.out)
                    have n2_ := Aside0.mk (bw1 HB.out)
                    clear BK317
                    clear BK325
                    clear HB
                    have BK317 := n0_
                    have BK325 := n1_
                    have HB := n2_
                    clear n0_ n1_ n2_
                    have p326 : 0 ≤ ((rd l3 x37_2) : Int) := of_decide_eq_true (by first | (with_reducible assumption) | assumption)
                    have q326 : (rd l3 x37_2) < (l0_1.length : Int) := of_decide_eq_true (by first | (with_reducible assumption) | assumption)
                    obtain ⟨ad326, A326_0, c326_0, e326, hx326_0, hl326_0, hi326_0⟩ := at_L16 HR0_1.out (rd l3 x37_2) p326 q326
                    have hw326_0 := hx326_0
                    cases e326
                    replace hx326_0 := (HB.out.cell (World.block_lt_of_cell? w _ hx326_0)).trans hx326_0
                    have HR326_0 := Aside0.mk hi326_0
                    have HC326_0 := Aside0.mk hl326_0
                    clear hi326_0 hl326_0
                    replace p326 := eq_true p326
                    replace q326 := eq_true q326
                    refine start_ (n := 16) (S := fun w' => w'.cell? ⟨gb325, 0, none⟩ = some (.string ((rd_T81 l0_0 (rd l3 x37_2)).f0)) ∧ w'.cell? ⟨gb325, 1, none⟩ = some (.int .i64 ((rd_T81 l0_0 (rd l3 x37_2)).f1)) ∧ w'.cell? ⟨gb317, 0, none⟩ = some (.slice (some ad324) l0_0.length c0_0) ∧ w'.cell? ⟨gb317, 1, none⟩ = some (.slice (some ad326) l0_1.length c0_1) ∧ w'.cell? (ad326.add ((rd l3 x37_2)).toNat) = some (.slice A326_0 (rd_L16 l0_1 (rd l3 x37_2)).length c326_0)) (ds := []) #[false, false, false, false, false, false, false, false, false, false, false, false, false, false, false, false] (by kernel_rfl) rfl rfl ⟨(blk_cell BK325.out 0).trans rfl, (blk_cell BK325.out 1).trans rfl, (blk_cell BK317.out 0).trans rfl, (blk_cell BK317.out 1).trans rfl, ((HB.out.cell (World.block_lt_of_cell? w _ hw326_0)).trans hw326_0)⟩ (fun hHeld => ?_); refine with_tabW impl_builder_shortest.tab15 impl_builder_shortest.bits15 (fun HT_ HW_ => ?_)
                    generalize w48.drew = w49 at BK317 BK325 HB HR326_0 hx326_0 hHeld ⊢
                    refine pu_ 0 (some 55) HT_ ?_
                    refine pu_ 3 (some 58) HT_ ?_
                    refine pu_ 4 (some 59) HT_ ?_
                    refine pu_ 5 (some 60) HT_ ?_
                    refine pu_ 8 (some 63) HT_ ?_
                    refine pu_ 10 (some 65) HT_ ?_
                    refine tk_ 1 (some 56) HT_ HW_ hHeld rfl (by rintro w' ⟨s0, s1, s2, s3, s4⟩; go_simp; with_reducible rfl) ?_
                    refine tk_ 2 (some 57) HT_ HW_ hHeld rfl (by rintro w' ⟨s0, s1, s2, s3, s4⟩; go_simp; with_reducible rfl) ?_
                    refine tk_ 6 (some 61) HT_ HW_ hHeld rfl (by rintro w' ⟨s0, s1, s2, s3, s4⟩; go_simp; with_reducible rfl) ?_
                    refine pu_ 7 (some 62) HT_ ?_
                    refine tk_ 9 (some 64) HT_ HW_ hHeld rfl (by rintro w' ⟨s0, s1, s2, s3, s4⟩; go_simp; with_reducible rfl) ?_
                    refine pu_ 11 (some 66) HT_ ?_
                    refine tk_ 12 (some 67) HT_ HW_ hHeld rfl (by rintro w' ⟨s0, s1, s2, s3, s4⟩; go_simp; with_reducible rfl) ?_
                    refine on_ 13 (some 68) HT_ fun K hK => ?_
                    refine goes_ Try.func43 (by kernel_rfl) rfl #[.agg #[.slice (some ad324) l0_0.length c0_0, .slice (some ad326) l0_1.length c0_1], .slice (some ad322) l1.length c1, .int .i64 (wrap64 (a2 - ((rd_T81 l0_0 (rd l3 x37_2)).f1))), .slice A326_0 (rd_L16 l0_1 (rd l3 x37_2)).length c326_0] (by rfl) rfl rfl (by (try simp only [List.map_toArray, List.map_cons, List.map_nil]); first | done | rfl | (simp only [List.length_drop, List.length_take]; rfl)) ?_
                    with_reducible refine (ih k2 (by have := HK1.out; have := HK2.out; omega) _ _ l0_0 _ _ l0_1 _ _ l1 (wrap64 (a2 - ((rd_T81 l0_0 (rd l3 x37_2)).f1))) _ _ (rd_L16 l0_1 (rd l3 x37_2)) t327 _ ?side1 ?side2 ?side3 ?side4 ?side5 ?side6 ?side7 ?side8 A26.out).mono ?_
                    (case side1 => repeat (first | exact (Kd.C_below HR0_0.out HB.out) | (with_reducible refine Kd.C_alloc ?_ _) | (with_reducible refine Kd.C_drewN ?_ _) | (with_reducible refine Kd.C_drew ?_)))
                    (case side2 => exact HC0_0.out)
                    (case side3 => repeat (first | exact (Kd.C_below HR0_1.out HB.out) | (with_reducible refine Kd.C_alloc ?_ _) | (with_reducible refine Kd.C_drewN ?_ _) | (with_reducible refine Kd.C_drew ?_)))
                    (case side4 => exact HC0_1.out)
                    (case side5 => repeat (first | exact (Kd.C_below HR1.out HB.out) | (with_reducible refine Kd.C_alloc ?_ _) | (with_reducible refine Kd.C_drewN ?_ _) | (with_reducible refine Kd.C_drew ?_)))
                    (case side6 => exact HC1.out)
                    (case side7 => repeat (first | exact (Kd.C_below HR326_0.out HB.out) | (with_reducible refine Kd.C_alloc ?_ _) | (with_reducible refine Kd.C_drewN ?_ _) | (with_reducible refine Kd.C_drew ?_)))
                    (case side8 => exact HC326_0.out)
                    rintro e w50 ⟨rfl, hb⟩
                    refine ⟨_, rfl, ?_⟩
                    have n0_ := Aside0.mk (blk_below (g := gb317) (by (with_reducible repeat (first | refine blk_drewN ?_ _ | refine blk_drew ?_ | refine blk_alloc ?_ _)); exact BK317.out) hb)
                    have n1_ := Aside0.mk (blk_below (g := gb325) (by (with_reducible repeat (first | refine blk_drewN ?_ _ | refine blk_drew ?_ | refine blk_alloc ?_ _)); exact BK325.out) hb)
                    have n2_ := Aside0.mk (below_step (by repeat (first | (with_reducible first | exact HB.out | apply bwA | apply pwN | apply bw1 | refine below_set ?_ GE317.out | refine below_set ?_ GE325.out) | exact HB.out)) hb)
                    clear BK317
                    clear BK325
                    clear HB
                    have BK317 := n0_
                    have BK325 := n1_
                    have HB := n2_
                    clear n0_ n1_ n2_
                    (try clear hb)
                    (try clear hb2)
                    (try clear hk)
                    (try clear hi)
                    refine hK.out _ _ ⟨(blk_cell BK325.out 0).trans rfl, (blk_cell BK325.out 1).trans rfl, (blk_cell BK317.out 0).trans rfl, (blk_cell BK317.out 1).trans rfl, ((HB.out.cell (World.block_lt_of_cell? w _ hw326_0)).trans hw326_0)⟩ (fun hHeld => ?_)
                    clear hK K
                    refine nm_ (some 68) ?_
                    refine pu_ 14 (some 69) HT_ ?_
                    refine pu_ 15 (some 16) HT_ ?_
                    refine done_ (done_of HT_.out (by kernel_rfl)) ?_
                    try go_wp2
                    go_roundg k2
                    case measure => have := HK1.out; have := HK2.out; omega
                    case rel => exact ⟨(x12_2), (wrap64 (x37_2 + 1)), (by first | rfl | (simp; done) | (simp [*]; done)), (by first | rfl | (simp; done) | (simp [*]; done)), H', ⟨by have := HK1.out; have := HK2.out; omega⟩, ⟨by (with_reducible repeat (first | refine blk_drewN ?_ _ | refine blk_drew ?_ | refine blk_alloc ?_ _)); exact BK317.out⟩, ⟨by repeat (first | (with_reducible first | exact HB.out | apply bwA | apply pwN | apply bw1 | refine below_set ?_ GE317.out | refine below_set ?_ GE325.out) | exact HB.out)⟩⟩
                 ·rw [if_neg c27] at H
                  exact absurd H (by simp)
                ·rw [if_neg c25] at H
                 exact absurd H (by simp)
               ·rw [if_neg c24] at H
                exact absurd H (by simp)
              ·rw [if_neg c23] at H
               have c23b0 : ((rd (rd_L18 l1 a2) (rd l3 x37_2)) == x9_1) = false := beq_eq_false_iff_ne.mpr c23
               have c23b1 : ((rd (rd_L18 l1 a2) (rd l3 x37_2)) != x9_1) = true := bne_iff_ne.mpr c23
               have H' := Aside0.mk H
               clear H
               have p321 : 0 ≤ (x37_2 : Int) := of_decide_eq_true (by first | (with_reducible assumption) | assumption)
               have q321 : x37_2 < (l3.length : Int) := of_decide_eq_true (by first | (with_reducible assumption) | assumption)
               obtain ⟨ad321, e321, hx321_0⟩ := Kd.at_int HR3.out x37_2 p321 q321
               cases e321
               replace hx321_0 := (HB.out.cell (World.block_lt_of_cell? w _ hx321_0)).trans hx321_0
               replace p321 := eq_true p321
               replace q321 := eq_true q321
               have p322 : 0 ≤ (a2 : Int) := of_decide_eq_true (by first | (with_reducible assumption) | assumption)
               have q322 : a2 < (l1.length : Int) := of_decide_eq_true (by first | (with_reducible assumption) | assumption)
               obtain ⟨ad322, A322_0, c322_0, e322, hx322_0, hl322_0, hi322_0⟩ := at_L18 HR1.out a2 p322 q322
               cases e322
               replace hx322_0 := (HB.out.cell (World.block_lt_of_cell? w _ hx322_0)).trans hx322_0
               have HR322_0 := Aside0.mk hi322_0
               have HC322_0 := Aside0.mk hl322_0
               clear hi322_0 hl322_0
               replace p322 := eq_true p322
               replace q322 := eq_true q322
               have p323 : 0 ≤ ((rd l3 x37_2) : Int) := of_decide_eq_true (by first | (with_reducible assumption) | assumption)
               have q323 : (rd l3 x37_2) < ((rd_L18 l1 a2).length : Int) := of_decide_eq_true (by first | (with_reducible assumption) | assumption)
               obtain ⟨ad323, e323, hx323_0⟩ := Kd.at_int HR322_0.out (rd l3 x37_2) p323 q323
               cases e323
               replace hx323_0 := (HB.out.cell (World.block_lt_of_cell? w _ hx323_0)).trans hx323_0
               replace p323 := eq_true p323
               replace q323 := eq_true q323
               go_wp2
               go_roundg k2
               case measure => have := HK1.out; have := HK2.out; omega
               case rel => exact ⟨(x12_2), (wrap64 (x37_2 + 1)), (by first | rfl | (simp; done) | (simp [*]; done)), (by first | rfl | (simp; done) | (simp [*]; done)), H', ⟨by have := HK1.out; have := HK2.out; omega⟩, ⟨by (with_reducible repeat (first | refine blk_drewN ?_ _ | refine blk_drew ?_ | refine blk_alloc ?_ _)); exact BK317.out⟩, ⟨by repeat (first | (with_reducible first | exact HB.out | apply bwA | apply pwN | apply bw1 | refine below_set ?_ GE317.out) | exact HB.out)⟩⟩
             ·rw [if_neg c22] at H
              exact absurd H (by simp)
            ·rw [if_neg c21] at H
             exact absurd H (by simp)
           ·rw [if_neg c20] at H
            exact absurd H (by simp)
          ·rw [if_neg c19] at H
           exact absurd H (by simp)
         ·rw [if_neg c18] at H
          exact absurd H (by simp)
        ·rw [if_neg c17] at H
         exact absurd H (by simp)
       ·rw [if_neg c16] at H
        have c16b0 : decide (x37_2 < (l3.length : Int)) = false := decide_eq_false c16
        clear c16
        obtain rfl := Option.some.inj H
        go_wp2
        go_ret
        exact ⟨by first | rfl | (simp [errW_none, errW_some, i64_w]; done) | (simp [errW_none, errW_some] <;> rfl) | (simp [*, errW_none, errW_some] <;> rfl), by repeat (first | (with_reducible first | exact HB.out | apply bwA | apply pwN | apply bw1 | refine below_set ?_ GE317.out) | exact HB.out)⟩
end Go.Proofs.Ytlepbhlbooajmaa.Q
namespace Go.Proofs.Ytlepbhlbooajmaa.Ext
end Go.Proofs.Ytlepbhlbooajmaa.Ext
namespace Go.Proofs.Ytlepbhlbooajmaa.Q
open Go.Proofs.Ytlepbhlbooajmaa.Ext
open Go.RowKit Go.Proofs.YtlepbhlbooajmaaW.PrintWords Go.Proofs.YtlepbhlbooajmaaW.PrintLast Go.Proofs.YtlepbhlbooajmaaW.PrintMore
attribute [local go_sem] max2_int min2_int max_two min_two max_three min_three max_four min_four
set_option linter.unusedVariables false
set_option linter.unusedSimpArgs false
mutual
def spec_l03First.l0 : Nat → List (S108) → List (List Bool) → List (List Int) → Int → Int → ByteArray → Int → Option (ByteArray)
 | 0, _, _, _, _, _, _, _ => none
 | k + 1, x0, x1, x2, x3, x4, x11, x12 => if x12 < (x0.length : Int) then (if 0 ≤ x4 then (if x4 < (x1.length : Int) then (if 0 ≤ x12 then (if x12 < ((rd_L11 x1 x4).length : Int) then (if (rdOf false (rd_L11 x1 x4) x12 = true) then (spec_l03First.j1 k x0 x1 x2 x3 x4 x11 x12 (decide (((rd_T108 x0 x12).f1) > x3))) else (spec_l03First.j1 k x0 x1 x2 x3 x4 x11 x12 true)) else (none)) else (none)) else (none)) else (none)) else (some x11)
def spec_l03First.j1 : Nat → List (S108) → List (List Bool) → List (List Int) → Int → Int → ByteArray → Int → Bool → Option (ByteArray)
 | 0, _, _, _, _, _, _, _, _ => none
 | k + 1, x0, x1, x2, x3, x4, x11, x12, x38 => if x38 = true then (spec_l03First.l0 k x0 x1 x2 x3 x4 x11 (wrap64 (x12 + 1))) else (if 0 ≤ x12 then (if x12 < (x0.length : Int) then (if 0 ≤ (wrap64 (x3 - ((rd_T108 x0 x12).f1))) then (if (wrap64 (x3 - ((rd_T108 x0 x12).f1))) < (x2.length : Int) then (if x12 < ((rd_L12 x2 (wrap64 (x3 - ((rd_T108 x0 x12).f1)))).length : Int) then (if 0 ≤ x3 then (if x3 < (x2.length : Int) then (if 0 ≤ x4 then (if x4 < ((rd_L12 x2 x3).length : Int) then (if (wrap64 ((((rd_T108 x0 x12).f0).size : Int) + (rd (rd_L12 x2 (wrap64 (x3 - ((rd_T108 x0 x12).f1)))) x12))) = (rd (rd_L12 x2 x3) x4) then ((spec_l03First.f k x0 x1 x2 (wrap64 (x3 - ((rd_T108 x0 x12).f1))) x12).bind fun t225 => (if ((rd_T108 x0 x12).f0).size + t225.size ≤ 9223372036854775807 then (if x11.toList = ([] : List UInt8) then (spec_l03First.l0 k x0 x1 x2 x3 x4 (((rd_T108 x0 x12).f0) ++ t225) (wrap64 (x12 + 1))) else (if (Op.bytesLess ((((rd_T108 x0 x12).f0) ++ t225).toList) x11.toList) = true then (spec_l03First.l0 k x0 x1 x2 x3 x4 (((rd_T108 x0 x12).f0) ++ t225) (wrap64 (x12 + 1))) else (spec_l03First.l0 k x0 x1 x2 x3 x4 x11 (wrap64 (x12 + 1))))) else (none))) else (spec_l03First.l0 k x0 x1 x2 x3 x4 x11 (wrap64 (x12 + 1)))) else (none)) else (none)) else (none)) else (none)) else (none)) else (none)) else (none)) else (none)) else (none))
def spec_l03First.f : Nat → List (S108) → List (List Bool) → List (List Int) → Int → Int → Option (ByteArray)
 | 0, _, _, _, _, _ => none
 | k + 1, l0, l1, l2, a3, a4 => if a3 = 0 then (some (⟨#[]⟩ : ByteArray)) else (spec_l03First.l0 k l0 l1 l2 a3 a4 (⟨#[]⟩ : ByteArray) 0)
end
def spec_l03First.T8 : Bool × List (List Nat × List Nat) := (true, [([], []), ([], []), ([0, 1], [0, 1]), ([2], [2]), ([3], [3]), ([4], [4]), ([], []), ([], []), ([], []), ([], []), ([8, 9], [8, 9]), ([10], [10]), ([11], [11]), ([7, 12], [7, 12]), ([6, 13], [6, 13]), ([14], [14]), ([], []), ([15, 16], [15, 16]), ([17], [17]), ([5, 18], [5, 18]), ([], []), ([], []), ([20, 21], [20, 21]), ([22], [22]), ([], []), ([23, 24], [23, 24]), ([25], [25]), ([19, 26], [19, 26])])
def spec_l03First.B8 : List Nat := [0, 0, 3, 7, 15, 31, 0, 0, 0, 0, 768, 1792, 3840, 8064, 16320, 32704, 0, 131008, 262080, 524287, 0, 0, 3145728, 7340032, 0, 32505856, 66060288, 134217727]
theorem spec_l03First.tab8 : rtab .any (opsOf Try.f40 8) = spec_l03First.T8 := by kernel_rfl
theorem spec_l03First.bits8 : waitsOk spec_l03First.T8.2 spec_l03First.B8 = true := by kernel_rfl
def spec_l03First.T9 : Bool × List (List Nat × List Nat) := (true, [([], []), ([], []), ([0, 1], [0, 1]), ([2], [2]), ([3], [3]), ([], []), ([], []), ([], []), ([], []), ([], []), ([], []), ([9, 10], [9, 10]), ([11], [11]), ([12], [12]), ([8, 13], [8, 13]), ([], []), ([5, 6, 7, 14, 15], [5, 6, 7, 14, 15]), ([4, 16], [4, 16]), ([17, 16, 0, 1, 2, 3, 4, 5, 6, 7, 8, 9, 10, 11, 12, 13, 14, 15, 16, 17], [17])])
def spec_l03First.B9 : List Nat := [0, 0, 3, 7, 15, 0, 0, 0, 0, 0, 0, 1536, 3584, 7680, 16128, 0, 65504, 131071, 262143]
theorem spec_l03First.tab9 : rtab .any (opsOf Try.f40 9) = spec_l03First.T9 := by kernel_rfl
theorem spec_l03First.bits9 : waitsOk spec_l03First.T9.2 spec_l03First.B9 = true := by kernel_rfl
set_option maxHeartbeats 8000000 in
set_option maxRecDepth 100000 in
theorem spec_l03First.calls (k : Nat) : ∀ (A0 : Option Addr) (c0 : Nat) (l0 : List (S108)) (A1 : Option Addr) (c1 : Nat) (l1 : List (List Bool)) (A2 : Option Addr) (c2 : Nat) (l2 : List (List Int)) (a3 : Int) (a4 : Int) (r : ByteArray) (w : World) (hr0 : Kd.C k108 w A0 l0.length l0) (hc0 : l0.length ≤ c0) (hr1 : Kd.C (Kd.slice 4 Kd.bool) w A1 l1.length l1) (hc1 : l1.length ≤ c1) (hr2 : Kd.C (Kd.slice 2 (Kd.int .i64)) w A2 l2.length l2) (hc2 : l2.length ≤ c2) (h : spec_l03First.f k l0 l1 l2 a3 a4 = some r),
  Calls Try.prog 40 #[.slice A0 l0.length c0, .slice A1 l1.length c1, .slice A2 l2.length c2, .int .i64 a3, .int .i64 a4] w fun e w' => e = .returned (.string r) ∧ Below w.heap.size w w' := by
 induction k using Nat.strongRecOn with
 | _ k ih =>
 intro A0 c0 l0 A1 c1 l1 A2 c2 l2 a3 a4 r w hr0 hc0 hr1 hc1 hr2 hc2 h
 cases k with
 | zero => exact absurd h (by simp [spec_l03First.f])
 | succ k =>
 simp only [spec_l03First.f] at h
 have HR0 := Aside0.mk hr0
 have HC0 := Aside0.mk hc0
 clear hr0 hc0
 have HR1 := Aside0.mk hr1
 have HC1 := Aside0.mk hc1
 clear hr1 hc1
 have HR2 := Aside0.mk hr2
 have HC2 := Aside0.mk hc2
 clear hr2 hc2
 have HB := Aside0.mk (Below.refl w.heap.size w)
 have H : (if a3 = 0 then (some (⟨#[]⟩ : ByteArray)) else (spec_l03First.l0 k l0 l1 l2 a3 a4 (⟨#[]⟩ : ByteArray) 0)) = some r := h
 clear h
 by_cases c6 : a3 = 0
 ·rw [if_pos c6] at H
  have c6b0 : (a3 == 0) = true := beq_iff_eq.mpr c6
  have c6b1 : (a3 != 0) = false := bne_eq_false_iff_eq.mpr c6
  clear c6
  obtain rfl := Option.some.inj H
  go_enter Try.func40, Try.ntmps40
  go_wp2
  go_ret
  exact ⟨by first | rfl | (simp [errW_none, errW_some, i64_w]; done) | (simp [errW_none, errW_some] <;> rfl) | (simp [*, errW_none, errW_some] <;> rfl), by repeat (first | (with_reducible first | exact HB.out | apply bwA | apply pwN | apply bw1) | exact HB.out)⟩
 ·rw [if_neg c6] at H
  have c6b0 : (a3 == 0) = false := beq_eq_false_iff_ne.mpr c6
  have c6b1 : (a3 != 0) = true := bne_iff_ne.mpr c6
  have H' := Aside0.mk H
  clear H
  go_enter Try.func40, Try.ntmps40
  go_wp2
  go_loopg [11, 12] k (fun kq v11 v12 w' => ∃ (x11_1 : ByteArray) (x12_1 : Int), v11 = .string x11_1 ∧ v12 = .int .i64 x12_1 ∧ Aside0 (spec_l03First.l0 kq l0 l1 l2 a3 a4 x11_1 x12_1 = some r) ∧ Aside0 (kq ≤ k) ∧ Aside0 (Below w.heap.size w w'))
  case atStart => exact ⟨((⟨#[]⟩ : ByteArray)), (0), (by first | rfl | (simp; done) | (simp [*]; done)), (by first | rfl | (simp; done) | (simp [*]; done)), H', ⟨Nat.le_refl _⟩, ⟨by repeat (first | (with_reducible first | exact HB.out | apply bwA | apply pwN | apply bw1) | exact HB.out)⟩⟩
  case round =>
   clear H'
   try clear c1
   try clear c2
   try clear p2
   try clear c4
   try clear c6
   try clear c6b0
   try clear c6b1
   obtain ⟨x11_1, x12_1, rfl, rfl, HA, HK1, HB⟩ := hrel
   cases gk with
   | zero => exact absurd HA.out (by simp [spec_l03First.l0])
   | succ k1 =>
    have H := HA.out
    clear HA
    simp only [spec_l03First.l0] at H
    by_cases c7 : x12_1 < (l0.length : Int)
    ·rw [if_pos c7] at H
     have c7b0 : decide (x12_1 < (l0.length : Int)) = true := decide_eq_true c7
     clear c7
     have HC8 := Aside0.mk H
     clear H
     go_upto_region 7 with (fail)
     go_cut [38] (fun v38 wc => ∃ (kq : Nat) (x38_7 : Bool), v38 = .bool x38_7 ∧ Aside0 (spec_l03First.j1 kq l0 l1 l2 a3 a4 x11_1 x12_1 x38_7 = some r) ∧ Aside0 (kq ≤ k1) ∧ Aside0 (Below w.heap.size w wc))
     case first =>
      have H := HC8.out
      clear HC8
      by_cases c9 : 0 ≤ a4
      ·rw [if_pos c9] at H
       have c9b0 : decide (0 ≤ a4) = true := decide_eq_true c9
       clear c9
       (first | rw [c9b0] | (simp only [i64_w, i32_w]; rw [c9b0]) | skip)
       by_cases c10 : a4 < (l1.length : Int)
       ·rw [if_pos c10] at H
        have c10b0 : decide (a4 < (l1.length : Int)) = true := decide_eq_true c10
        clear c10
        by_cases c11 : 0 ≤ x12_1
        ·rw [if_pos c11] at H
         have c11b0 : decide (0 ≤ x12_1) = true := decide_eq_true c11
         clear c11
         by_cases c12 : x12_1 < ((rd_L11 l1 a4).length : Int)
         ·rw [if_pos c12] at H
          have c12b0 : decide (x12_1 < ((rd_L11 l1 a4).length : Int)) = true := decide_eq_true c12
          clear c12
          obtain ⟨bq13, hbq13⟩ : ∃ b_ : Bool, b_ = (rdOf false (rd_L11 l1 a4) x12_1) := ⟨_, rfl⟩
          replace H : (if (bq13 = true) then (spec_l03First.j1 k1 l0 l1 l2 a3 a4 x11_1 x12_1 (decide (((rd_T108 l0 x12_1).f1) > a3))) else (spec_l03First.j1 k1 l0 l1 l2 a3 a4 x11_1 x12_1 true)) = some r := by rw [← hbq13] at H; exact H
          have Nbq13 := Aside0.mk hbq13
          clear hbq13
          by_cases c14 : (bq13 = true)
          ·subst c14
           rw [if_pos rfl] at H
           have H1 := H
           clear H
           have H := H1
           clear H1
           have H' := Aside0.mk H
           clear H
           have p214 : 0 ≤ (a4 : Int) := of_decide_eq_true (by first | (with_reducible assumption) | assumption)
           have q214 : a4 < (l1.length : Int) := of_decide_eq_true (by first | (with_reducible assumption) | assumption)
           obtain ⟨ad214, A214_0, c214_0, e214, hx214_0, hl214_0, hi214_0⟩ := at_L11 HR1.out a4 p214 q214
           cases e214
           replace hx214_0 := (HB.out.cell (World.block_lt_of_cell? w _ hx214_0)).trans hx214_0
           have HR214_0 := Aside0.mk hi214_0
           have HC214_0 := Aside0.mk hl214_0
           clear hi214_0 hl214_0
           replace p214 := eq_true p214
           replace q214 := eq_true q214
           have p215 : 0 ≤ (x12_1 : Int) := of_decide_eq_true (by first | (with_reducible assumption) | assumption)
           have q215 : x12_1 < ((rd_L11 l1 a4).length : Int) := of_decide_eq_true (by first | (with_reducible assumption) | assumption)
           obtain ⟨ad215, e215, hx215_0⟩ := Kd.at_bool HR214_0.out x12_1 p215 q215
           (try rw [← Nbq13.out] at hx215_0)
           cases e215
           replace hx215_0 := (HB.out.cell (World.block_lt_of_cell? w _ hx215_0)).trans hx215_0
           replace p215 := eq_true p215
           replace q215 := eq_true q215
           have p216 : 0 ≤ (x12_1 : Int) := of_decide_eq_true (by first | (with_reducible assumption) | assumption)
           have q216 : x12_1 < (l0.length : Int) := of_decide_eq_true (by first | (with_reducible assumption) | assumption)
           obtain ⟨ad216, e216, hx216_0, hx216_1⟩ := at_T108 HR0.out x12_1 p216 q216
           cases e216
           replace hx216_0 := (HB.out.cell (World.block_lt_of_cell? w _ hx216_0)).trans hx216_0
           replace hx216_1 := (HB.out.cell (World.block_lt_of_cell? w _ hx216_1)).trans hx216_1
           replace p216 := eq_true p216
           replace q216 := eq_true q216
           go_wp2
           go_meet
           case rel => exact ⟨_, (decide (((rd_T108 l0 x12_1).f1) > a3)), (by first | rfl | (simp; done) | (simp [*]; done)), H', ⟨by have := HK1.out; first | omega | exact Nat.le_refl _⟩, ⟨by repeat (first | (with_reducible first | exact HB.out | apply bwA | apply pwN | apply bw1) | exact HB.out)⟩⟩
          ·replace c14 := Bool.eq_false_iff.mpr c14
           subst c14
           rw [if_neg (show ¬ (false = true) by decide)] at H
           have H1 := H
           clear H
           have H := H1
           clear H1
           have H' := Aside0.mk H
           clear H
           have p214 : 0 ≤ (a4 : Int) := of_decide_eq_true (by first | (with_reducible assumption) | assumption)
           have q214 : a4 < (l1.length : Int) := of_decide_eq_true (by first | (with_reducible assumption) | assumption)
           obtain ⟨ad214, A214_0, c214_0, e214, hx214_0, hl214_0, hi214_0⟩ := at_L11 HR1.out a4 p214 q214
           cases e214
           replace hx214_0 := (HB.out.cell (World.block_lt_of_cell? w _ hx214_0)).trans hx214_0
           have HR214_0 := Aside0.mk hi214_0
           have HC214_0 := Aside0.mk hl214_0
           clear hi214_0 hl214_0
           replace p214 := eq_true p214
           replace q214 := eq_true q214
           have p215 : 0 ≤ (x12_1 : Int) := of_decide_eq_true (by first | (with_reducible assumption) | assumption)
           have q215 : x12_1 < ((rd_L11 l1 a4).length : Int) := of_decide_eq_true (by first | (with_reducible assumption) | assumption)
           obtain ⟨ad215, e215, hx215_0⟩ := Kd.at_bool HR214_0.out x12_1 p215 q215
           (try rw [← Nbq13.out] at hx215_0)
           cases e215
           replace hx215_0 := (HB.out.cell (World.block_lt_of_cell? w _ hx215_0)).trans hx215_0
           replace p215 := eq_true p215
           replace q215 := eq_true q215
           go_wp2
           go_meet
           case rel => exact ⟨_, (true), (by first | rfl | (simp; done) | (simp [*]; done)), H', ⟨by have := HK1.out; first | omega | exact Nat.le_refl _⟩, ⟨by repeat (first | (with_reducible first | exact HB.out | apply bwA | apply pwN | apply bw1) | exact HB.out)⟩⟩
         ·rw [if_neg c12] at H
          exact absurd H (by simp)
        ·rw [if_neg c11] at H
         exact absurd H (by simp)
       ·rw [if_neg c10] at H
        exact absurd H (by simp)
      ·rw [if_neg c9] at H
       exact absurd H (by simp)
     case rest =>
      clear HC8
      try clear c1
      try clear q1
      try clear c2
      try clear p2
      try clear q2
      try clear hx2
      try clear c4
      try clear c6
      try clear c6b0
      try clear c6b1
      try clear c7
      try clear c7b0
      try clear c9
      try clear c9b0
      try clear c10
      try clear c10b0
      try clear c11
      try clear c11b0
      try clear c12
      try clear c12b0
      try clear q13
      try clear c14
      try clear hx214_0
      try clear hx215_0
      try clear hx216_0
      try clear hx216_1
      try clear p2
      try clear p214
      try clear p215
      try clear p216
      try clear q214
      try clear q215
      try clear q216
      obtain ⟨kq, x38_7, rfl, HA, HJ7, HB⟩ := hcut
      cases kq with
      | zero => exact absurd HA.out (by simp [spec_l03First.j1])
      | succ kj7 =>
       have H := HA.out
       clear HA
       simp only [spec_l03First.j1] at H
       by_cases c15 : x38_7 = true
       ·subst c15
        rw [if_pos rfl] at H
        have H1 := H
        clear H
        have H := H1
        clear H1
        have H' := Aside0.mk H
        clear H
        go_wp2
        go_roundg kj7
        case measure => have := HK1.out; have := HJ7.out; omega
        case rel => exact ⟨(x11_1), (wrap64 (x12_1 + 1)), (by first | rfl | (simp; done) | (simp [*]; done)), (by first | rfl | (simp; done) | (simp [*]; done)), H', ⟨by have := HK1.out; have := HJ7.out; omega⟩, ⟨by repeat (first | (with_reducible first | exact HB.out | apply bwA | apply pwN | apply bw1) | exact HB.out)⟩⟩
       ·replace c15 := Bool.eq_false_iff.mpr c15
        subst c15
        rw [if_neg (show ¬ (false = true) by decide)] at H
        have H1 := H
        clear H
        have H := H1
        clear H1
        by_cases c16 : 0 ≤ x12_1
        ·rw [if_pos c16] at H
         have c16b0 : decide (0 ≤ x12_1) = true := decide_eq_true c16
         clear c16
         by_cases c17 : x12_1 < (l0.length : Int)
         ·rw [if_pos c17] at H
          have c17b0 : decide (x12_1 < (l0.length : Int)) = true := decide_eq_true c17
          clear c17
          obtain ⟨ji18, hji18⟩ : ∃ j_ : Int, (wrap64 (a3 - ((rd_T108 l0 x12_1).f1))) = j_ := ⟨_, rfl⟩
          replace H : (if 0 ≤ (ji18) then (if (ji18) < (l2.length : Int) then (if x12_1 < ((rd_L12 l2 (ji18)).length : Int) then (if 0 ≤ a3 then (if a3 < (l2.length : Int) then (if 0 ≤ a4 then (if a4 < ((rd_L12 l2 a3).length : Int) then (if (wrap64 ((((rd_T108 l0 x12_1).f0).size : Int) + (rd (rd_L12 l2 (ji18)) x12_1))) = (rd (rd_L12 l2 a3) a4) then ((spec_l03First.f kj7 l0 l1 l2 (ji18) x12_1).bind fun t225 => (if ((rd_T108 l0 x12_1).f0).size + t225.size ≤ 9223372036854775807 then (if x11_1.toList = ([] : List UInt8) then (spec_l03First.l0 kj7 l0 l1 l2 a3 a4 (((rd_T108 l0 x12_1).f0) ++ t225) (wrap64 (x12_1 + 1))) else (if (Op.bytesLess ((((rd_T108 l0 x12_1).f0) ++ t225).toList) x11_1.toList) = true then (spec_l03First.l0 kj7 l0 l1 l2 a3 a4 (((rd_T108 l0 x12_1).f0) ++ t225) (wrap64 (x12_1 + 1))) else (spec_l03First.l0 kj7 l0 l1 l2 a3 a4 x11_1 (wrap64 (x12_1 + 1))))) else (none))) else (spec_l03First.l0 kj7 l0 l1 l2 a3 a4 x11_1 (wrap64 (x12_1 + 1)))) else (none)) else (none)) else (none)) else (none)) else (none)) else (none)) else (none)) = some r := by first | (rw [hji18] at H; exact H) | (simp only [hji18] at H ⊢; exact H)
          have hji18w : (IntKind.i64.wrap (a3 - ((rd_T108 l0 x12_1).f1))) = ji18 := (i64_w _).trans hji18
          by_cases c19 : 0 ≤ (ji18)
          ·rw [if_pos c19] at H
           have c19b0 : decide (0 ≤ (ji18)) = true := decide_eq_true c19
           clear c19
           by_cases c20 : (ji18) < (l2.length : Int)
           ·rw [if_pos c20] at H
            have c20b0 : decide ((ji18) < (l2.length : Int)) = true := decide_eq_true c20
            clear c20
            by_cases c21 : x12_1 < ((rd_L12 l2 (ji18)).length : Int)
            ·rw [if_pos c21] at H
             have c21b0 : decide (x12_1 < ((rd_L12 l2 (ji18)).length : Int)) = true := decide_eq_true c21
             clear c21
             by_cases c22 : 0 ≤ a3
             ·rw [if_pos c22] at H
              have c22b0 : decide (0 ≤ a3) = true := decide_eq_true c22
              clear c22
              by_cases c23 : a3 < (l2.length : Int)
              ·rw [if_pos c23] at H
               have c23b0 : decide (a3 < (l2.length : Int)) = true := decide_eq_true c23
               clear c23
               by_cases c24 : 0 ≤ a4
               ·rw [if_pos c24] at H
                have c24b0 : decide (0 ≤ a4) = true := decide_eq_true c24
                clear c24
                by_cases c25 : a4 < ((rd_L12 l2 a3).length : Int)
                ·rw [if_pos c25] at H
                 have c25b0 : decide (a4 < ((rd_L12 l2 a3).length : Int)) = true := decide_eq_true c25
                 clear c25
                 by_cases c26 : (wrap64 ((((rd_T108 l0 x12_1).f0).size : Int) + (rd (rd_L12 l2 (ji18)) x12_1))) = (rd (rd_L12 l2 a3) a4)
                 ·rw [if_pos c26] at H
                  have c26b0 : ((wrap64 ((((rd_T108 l0 x12_1).f0).size : Int) + (rd (rd_L12 l2 (ji18)) x12_1))) == (rd (rd_L12 l2 a3) a4)) = true := beq_iff_eq.mpr c26
                  have c26b1 : ((wrap64 ((((rd_T108 l0 x12_1).f0).size : Int) + (rd (rd_L12 l2 (ji18)) x12_1))) != (rd (rd_L12 l2 a3) a4)) = false := bne_eq_false_iff_eq.mpr c26
                  clear c26
                  replace H := Option.bind_eq_some_iff.mp H
                  obtain ⟨t225, A270, H⟩ := H
                  (try dsimp only at H)
                  have A27 := Aside0.mk A270
                  clear A270
                  by_cases c28 : ((rd_T108 l0 x12_1).f0).size + t225.size ≤ 9223372036854775807
                  ·rw [if_pos c28] at H
                   have c28b0 := eq_true c28
                   have c28b1 : decide (((rd_T108 l0 x12_1).f0).size + t225.size ≤ 9223372036854775807) = true := decide_eq_true c28
                   try have c28b2 : (9223372036854775807 < ((rd_T108 l0 x12_1).f0).size + t225.size) = False := eq_false (Nat.not_lt.2 c28)
                   by_cases c29 : x11_1.toList = ([] : List UInt8)
                   ·rw [if_pos c29] at H
                    have c29b0 : (x11_1.toList == ([] : List UInt8)) = true := beq_iff_eq.mpr c29
                    have c29b1 : (x11_1.toList != ([] : List UInt8)) = false := bne_eq_false_iff_eq.mpr c29
                    clear c29
                    have H' := Aside0.mk H
                    clear H
                    try go_wp2
                    have n0_ := Aside0.mk (bw1 HB.out)
                    clear HB
                    have HB := n0_
                    clear n0_
                    have p217 : 0 ≤ (x12_1 : Int) := of_decide_eq_true (by first | (with_reducible assumption) | assumption)
                    have q217 : x12_1 < (l0.length : Int) := of_decide_eq_true (by first | (with_reducible assumption) | assumption)
                    obtain ⟨ad217, e217, hx217_0, hx217_1⟩ := at_T108 HR0.out x12_1 p217 q217
                    have hw217_1 := hx217_1
                    have hw217_0 := hx217_0
                    cases e217
                    replace hx217_0 := (HB.out.cell (World.block_lt_of_cell? w _ hx217_0)).trans hx217_0
                    replace hx217_1 := (HB.out.cell (World.block_lt_of_cell? w _ hx217_1)).trans hx217_1
                    replace p217 := eq_true p217
                    replace q217 := eq_true q217
                    have p218 : 0 ≤ (x12_1 : Int) := of_decide_eq_true (by first | (with_reducible assumption) | assumption)
                    have q218 : x12_1 < (l0.length : Int) := of_decide_eq_true (by first | (with_reducible assumption) | assumption)
                    obtain ⟨ad218, e218, hx218_0, hx218_1⟩ := at_T108 HR0.out x12_1 p218 q218
                    have hw218_1 := hx218_1
                    have hw218_0 := hx218_0
                    obtain rfl : ad217 = ad218 := (by injection e218)
                    replace hx218_0 := (HB.out.cell (World.block_lt_of_cell? w _ hx218_0)).trans hx218_0
                    replace hx218_1 := (HB.out.cell (World.block_lt_of_cell? w _ hx218_1)).trans hx218_1
                    replace p218 := eq_true p218
                    replace q218 := eq_true q218
                    have p219 : 0 ≤ ((ji18) : Int) := of_decide_eq_true (by first | (with_reducible assumption) | assumption)
                    have q219 : (ji18) < (l2.length : Int) := of_decide_eq_true (by first | (with_reducible assumption) | assumption)
                    obtain ⟨ad219, A219_0, c219_0, e219, hx219_0, hl219_0, hi219_0⟩ := at_L12 HR2.out (ji18) p219 q219
                    have hw219_0 := hx219_0
                    cases e219
                    replace hx219_0 := (HB.out.cell (World.block_lt_of_cell? w _ hx219_0)).trans hx219_0
                    have HR219_0 := Aside0.mk hi219_0
                    have HC219_0 := Aside0.mk hl219_0
                    clear hi219_0 hl219_0
                    replace p219 := eq_true p219
                    replace q219 := eq_true q219
                    have p220 : 0 ≤ (x12_1 : Int) := of_decide_eq_true (by first | (with_reducible assumption) | assumption)
                    have q220 : x12_1 < ((rd_L12 l2 (ji18)).length : Int) := of_decide_eq_true (by first | (with_reducible assumption) | assumption)
                    obtain ⟨ad220, e220, hx220_0⟩ := Kd.at_int HR219_0.out x12_1 p220 q220
                    have hw220_0 := hx220_0
                    cases e220
                    replace hx220_0 := (HB.out.cell (World.block_lt_of_cell? w _ hx220_0)).trans hx220_0
                    replace p220 := eq_true p220
                    replace q220 := eq_true q220
                    have p221 : 0 ≤ (a3 : Int) := of_decide_eq_true (by first | (with_reducible assumption) | assumption)
                    have q221 : a3 < (l2.length : Int) := of_decide_eq_true (by first | (with_reducible assumption) | assumption)
                    obtain ⟨ad221, A221_0, c221_0, e221, hx221_0, hl221_0, hi221_0⟩ := at_L12 HR2.out a3 p221 q221
                    have hw221_0 := hx221_0
                    obtain rfl : ad219 = ad221 := (by injection e221)
                    replace hx221_0 := (HB.out.cell (World.block_lt_of_cell? w _ hx221_0)).trans hx221_0
                    have HR221_0 := Aside0.mk hi221_0
                    have HC221_0 := Aside0.mk hl221_0
                    clear hi221_0 hl221_0
                    replace p221 := eq_true p221
                    replace q221 := eq_true q221
                    have p222 : 0 ≤ (a4 : Int) := of_decide_eq_true (by first | (with_reducible assumption) | assumption)
                    have q222 : a4 < ((rd_L12 l2 a3).length : Int) := of_decide_eq_true (by first | (with_reducible assumption) | assumption)
                    obtain ⟨ad222, e222, hx222_0⟩ := Kd.at_int HR221_0.out a4 p222 q222
                    have hw222_0 := hx222_0
                    cases e222
                    replace hx222_0 := (HB.out.cell (World.block_lt_of_cell? w _ hx222_0)).trans hx222_0
                    replace p222 := eq_true p222
                    replace q222 := eq_true q222
                    refine start_ (n := 28) (S := fun w' => w'.cell? (ad217.add ((x12_1).toNat * 2)) = some (.string ((rd_T108 l0 x12_1).f0)) ∧ w'.cell? ⟨(ad217.add ((x12_1).toNat * 2)).block, (ad217.add ((x12_1).toNat * 2)).off + 1, none⟩ = some (.int .i64 ((rd_T108 l0 x12_1).f1)) ∧ w'.cell? (ad217.add ((x12_1).toNat * 2)) = some (.string ((rd_T108 l0 x12_1).f0)) ∧ w'.cell? ⟨(ad217.add ((x12_1).toNat * 2)).block, (ad217.add ((x12_1).toNat * 2)).off + 1, none⟩ = some (.int .i64 ((rd_T108 l0 x12_1).f1)) ∧ w'.cell? (ad219.add ((ji18)).toNat) = some (.slice (some ad220) (rd_L12 l2 (ji18)).length c219_0) ∧ w'.cell? (ad220.add (x12_1).toNat) = some (.int .i64 (rd (rd_L12 l2 (ji18)) x12_1)) ∧ w'.cell? (ad219.add (a3).toNat) = some (.slice (some ad222) (rd_L12 l2 a3).length c221_0) ∧ w'.cell? (ad222.add (a4).toNat) = some (.int .i64 (rd (rd_L12 l2 a3) a4))) (ds := []) #[false, false, false, false, false, false, false, false, false, false, false, false, false, false, false, false, false, false, false, false, false, false, false, false, false, false, false, false] (by kernel_rfl) rfl rfl ⟨((HB.out.cell (World.block_lt_of_cell? w _ hw217_0)).trans hw217_0), ((HB.out.cell (World.block_lt_of_cell? w _ hw217_1)).trans hw217_1), ((HB.out.cell (World.block_lt_of_cell? w _ hw218_0)).trans hw218_0), ((HB.out.cell (World.block_lt_of_cell? w _ hw218_1)).trans hw218_1), ((HB.out.cell (World.block_lt_of_cell? w _ hw219_0)).trans hw219_0), ((HB.out.cell (World.block_lt_of_cell? w _ hw220_0)).trans hw220_0), ((HB.out.cell (World.block_lt_of_cell? w _ hw221_0)).trans hw221_0), ((HB.out.cell (World.block_lt_of_cell? w _ hw222_0)).trans hw222_0)⟩ (fun hHeld => ?_); refine with_tabW spec_l03First.tab8 spec_l03First.bits8 (fun HT_ HW_ => ?_)
                    generalize wc.drew = w30 at HB HR219_0 HR221_0 hx217_0 hx217_1 hx218_0 hx218_1 hx219_0 hx220_0 hx221_0 hx222_0 hHeld ⊢
                    refine pu_ 0 (some 39) HT_ ?_
                    refine pu_ 1 (some 40) HT_ ?_
                    refine pu_ 2 (some 41) HT_ ?_
                    refine pu_ 3 (some 42) HT_ ?_
                    refine pu_ 6 (some 45) HT_ ?_
                    refine pu_ 7 (some 46) HT_ ?_
                    refine pu_ 8 (some 47) HT_ ?_
                    refine pu_ 9 (some 48) HT_ ?_
                    refine pu_ 10 (some 49) HT_ ?_
                    refine pu_ 11 (some 50) HT_ ?_
                    refine pu_ 16 (some 55) HT_ ?_
                    refine pu_ 20 (some 59) HT_ ?_
                    refine pu_ 21 (some 60) HT_ ?_
                    refine pu_ 22 (some 61) HT_ ?_
                    refine pu_ 24 (some 63) HT_ ?_
                    refine tk_ 4 (some 43) HT_ HW_ hHeld rfl (by rintro w' ⟨s0, s1, s2, s3, s4, s5, s6, s7⟩; go_simp; with_reducible rfl) ?_
                    refine pu_ 5 (some 44) HT_ ?_
                    refine tk_ 12 (some 51) HT_ HW_ hHeld rfl (by rintro w' ⟨s0, s1, s2, s3, s4, s5, s6, s7⟩; go_simp; with_reducible rfl) ?_
                    refine pu_ 13 (some 52) HT_ ?_
                    refine pu_ 14 (some 53) HT_ ?_
                    refine tk_ 15 (some 54) HT_ HW_ hHeld rfl (by rintro w' ⟨s0, s1, s2, s3, s4, s5, s6, s7⟩; go_simp; with_reducible rfl) ?_
                    refine pu_ 17 (some 56) HT_ ?_
                    refine tk_ 18 (some 57) HT_ HW_ hHeld rfl (by rintro w' ⟨s0, s1, s2, s3, s4, s5, s6, s7⟩; go_simp; with_reducible rfl) ?_
                    refine pu_ 19 (some 58) HT_ ?_
                    refine tk_ 23 (some 62) HT_ HW_ hHeld rfl (by rintro w' ⟨s0, s1, s2, s3, s4, s5, s6, s7⟩; go_simp; with_reducible rfl) ?_
                    refine pu_ 25 (some 64) HT_ ?_
                    refine tk_ 26 (some 65) HT_ HW_ hHeld rfl (by rintro w' ⟨s0, s1, s2, s3, s4, s5, s6, s7⟩; go_simp; with_reducible rfl) ?_
                    refine pu_ 27 (some 66) HT_ ?_
                    refine done_ (done_of HT_.out (by kernel_rfl)) ?_
                    try go_wp2
                    have n0_ := Aside0.mk (bw1 HB.out)
                    clear HB
                    have HB := n0_
                    clear n0_
                    have p223 : 0 ≤ (x12_1 : Int) := of_decide_eq_true (by first | (with_reducible assumption) | assumption)
                    have q223 : x12_1 < (l0.length : Int) := of_decide_eq_true (by first | (with_reducible assumption) | assumption)
                    obtain ⟨ad223, e223, hx223_0, hx223_1⟩ := at_T108 HR0.out x12_1 p223 q223
                    have hw223_1 := hx223_1
                    have hw223_0 := hx223_0
                    obtain rfl : ad217 = ad223 := (by injection e223)
                    replace hx223_0 := (HB.out.cell (World.block_lt_of_cell? w _ hx223_0)).trans hx223_0
                    replace hx223_1 := (HB.out.cell (World.block_lt_of_cell? w _ hx223_1)).trans hx223_1
                    replace p223 := eq_true p223
                    replace q223 := eq_true q223
                    have p224 : 0 ≤ (x12_1 : Int) := of_decide_eq_true (by first | (with_reducible assumption) | assumption)
                    have q224 : x12_1 < (l0.length : Int) := of_decide_eq_true (by first | (with_reducible assumption) | assumption)
                    obtain ⟨ad224, e224, hx224_0, hx224_1⟩ := at_T108 HR0.out x12_1 p224 q224
                    have hw224_1 := hx224_1
                    have hw224_0 := hx224_0
                    obtain rfl : ad217 = ad224 := (by injection e224)
                    replace hx224_0 := (HB.out.cell (World.block_lt_of_cell? w _ hx224_0)).trans hx224_0
                    replace hx224_1 := (HB.out.cell (World.block_lt_of_cell? w _ hx224_1)).trans hx224_1
                    replace p224 := eq_true p224
                    replace q224 := eq_true q224
                    refine start_ (n := 19) (S := fun w' => w'.cell? (ad217.add ((x12_1).toNat * 2)) = some (.string ((rd_T108 l0 x12_1).f0)) ∧ w'.cell? ⟨(ad217.add ((x12_1).toNat * 2)).block, (ad217.add ((x12_1).toNat * 2)).off + 1, none⟩ = some (.int .i64 ((rd_T108 l0 x12_1).f1)) ∧ w'.cell? (ad217.add ((x12_1).toNat * 2)) = some (.string ((rd_T108 l0 x12_1).f0)) ∧ w'.cell? ⟨(ad217.add ((x12_1).toNat * 2)).block, (ad217.add ((x12_1).toNat * 2)).off + 1, none⟩ = some (.int .i64 ((rd_T108 l0 x12_1).f1))) (ds := []) #[false, false, false, false, false, false, false, false, false, false, false, false, false, false, false, false, false, false, false] (by kernel_rfl) rfl rfl ⟨((HB.out.cell (World.block_lt_of_cell? w _ hw223_0)).trans hw223_0), ((HB.out.cell (World.block_lt_of_cell? w _ hw223_1)).trans hw223_1), ((HB.out.cell (World.block_lt_of_cell? w _ hw224_0)).trans hw224_0), ((HB.out.cell (World.block_lt_of_cell? w _ hw224_1)).trans hw224_1)⟩ (fun hHeld => ?_); refine with_tabW spec_l03First.tab9 spec_l03First.bits9 (fun HT_ HW_ => ?_)
                    generalize w30.drew = w31 at HB hx223_0 hx223_1 hx224_0 hx224_1 hHeld ⊢
                    refine pu_ 0 (some 67) HT_ ?_
                    refine pu_ 1 (some 68) HT_ ?_
                    refine pu_ 2 (some 69) HT_ ?_
                    refine pu_ 3 (some 70) HT_ ?_
                    refine pu_ 5 (some 72) HT_ ?_
                    refine pu_ 6 (some 73) HT_ ?_
                    refine pu_ 7 (some 74) HT_ ?_
                    refine pu_ 8 (some 75) HT_ ?_
                    refine pu_ 9 (some 76) HT_ ?_
                    refine pu_ 10 (some 77) HT_ ?_
                    refine pu_ 11 (some 78) HT_ ?_
                    refine pu_ 12 (some 79) HT_ ?_
                    refine pu_ 15 (some 82) HT_ ?_
                    refine tk_ 4 (some 71) HT_ HW_ hHeld rfl (by rintro w' ⟨s0, s1, s2, s3⟩; go_simp; with_reducible rfl) ?_
                    refine tk_ 13 (some 80) HT_ HW_ hHeld rfl (by rintro w' ⟨s0, s1, s2, s3⟩; go_simp; with_reducible rfl) ?_
                    refine pu_ 14 (some 81) HT_ ?_
                    refine on_ 16 (some 83) HT_ fun K hK => ?_
                    refine goes_ Try.func40 (by kernel_rfl) rfl #[.slice (some ad217) l0.length c0, .slice A1 l1.length c1, .slice (some ad219) l2.length c2, .int .i64 ji18, .int .i64 x12_1] (by rfl) rfl rfl (by (try simp only [List.map_toArray, List.map_cons, List.map_nil]); first | done | (simp only [hji18]; rfl) | rfl | (simp only [List.length_drop, List.length_take]; rfl)) ?_
                    with_reducible refine (ih kj7 (by have := HK1.out; have := HJ7.out; omega) _ _ l0 _ _ l1 _ _ l2 ji18 x12_1 t225 _ ?side1 ?side2 ?side3 ?side4 ?side5 ?side6 A27.out).mono ?_
                    (case side1 => repeat (first | exact (Kd.C_below HR0.out HB.out) | (with_reducible refine Kd.C_alloc ?_ _) | (with_reducible refine Kd.C_drewN ?_ _) | (with_reducible refine Kd.C_drew ?_)))
                    (case side2 => exact HC0.out)
                    (case side3 => repeat (first | exact (Kd.C_below HR1.out HB.out) | (with_reducible refine Kd.C_alloc ?_ _) | (with_reducible refine Kd.C_drewN ?_ _) | (with_reducible refine Kd.C_drew ?_)))
                    (case side4 => exact HC1.out)
                    (case side5 => repeat (first | exact (Kd.C_below HR2.out HB.out) | (with_reducible refine Kd.C_alloc ?_ _) | (with_reducible refine Kd.C_drewN ?_ _) | (with_reducible refine Kd.C_drew ?_)))
                    (case side6 => exact HC2.out)
                    rintro e w32 ⟨rfl, hb⟩
                    refine ⟨_, rfl, ?_⟩
                    have n0_ := Aside0.mk (below_step (by repeat (first | (with_reducible first | exact HB.out | apply bwA | apply pwN | apply bw1) | exact HB.out)) hb)
                    clear HB
                    have HB := n0_
                    clear n0_
                    (try clear hb)
                    (try clear hb2)
                    (try clear hk)
                    (try clear hi)
                    refine hK.out _ _ ⟨((HB.out.cell (World.block_lt_of_cell? w _ hw223_0)).trans hw223_0), ((HB.out.cell (World.block_lt_of_cell? w _ hw223_1)).trans hw223_1), ((HB.out.cell (World.block_lt_of_cell? w _ hw224_0)).trans hw224_0), ((HB.out.cell (World.block_lt_of_cell? w _ hw224_1)).trans hw224_1)⟩ (fun hHeld => ?_)
                    clear hK K
                    refine nm_ (some 83) ?_
                    refine pu_ 17 (some 84) HT_ ?_
                    refine pu_ 18 (some 13) HT_ ?_
                    refine done_ (done_of HT_.out (by kernel_rfl)) ?_
                    try go_wp2
                    go_roundg kj7
                    case measure => have := HK1.out; have := HJ7.out; omega
                    case rel => exact ⟨(((rd_T108 l0 x12_1).f0) ++ t225), (wrap64 (x12_1 + 1)), (by first | rfl | (simp; done) | (simp [*]; done)), (by first | rfl | (simp; done) | (simp [*]; done)), H', ⟨by have := HK1.out; have := HJ7.out; omega⟩, ⟨by repeat (first | (with_reducible first | exact HB.out | apply bwA | apply pwN | apply bw1) | exact HB.out)⟩⟩
                   ·rw [if_neg c29] at H
                    have c29b0 : (x11_1.toList == ([] : List UInt8)) = false := beq_eq_false_iff_ne.mpr c29
                    have c29b1 : (x11_1.toList != ([] : List UInt8)) = true := bne_iff_ne.mpr c29
                    by_cases c33 : (Op.bytesLess ((((rd_T108 l0 x12_1).f0) ++ t225).toList) x11_1.toList) = true
                    ·rw [if_pos c33] at H
                     have c33b0 : (Op.bytesLess ((((rd_T108 l0 x12_1).f0) ++ t225).toList) x11_1.toList) = true := c33
                     clear c33
                     have H' := Aside0.mk H
                     clear H
                     try go_wp2
                     have n0_ := Aside0.mk (bw1 HB.out)
                     clear HB
                     have HB := n0_
                     clear n0_
                     have p217 : 0 ≤ (x12_1 : Int) := of_decide_eq_true (by first | (with_reducible assumption) | assumption)
                     have q217 : x12_1 < (l0.length : Int) := of_decide_eq_true (by first | (with_reducible assumption) | assumption)
                     obtain ⟨ad217, e217, hx217_0, hx217_1⟩ := at_T108 HR0.out x12_1 p217 q217
                     have hw217_1 := hx217_1
                     have hw217_0 := hx217_0
                     cases e217
                     replace hx217_0 := (HB.out.cell (World.block_lt_of_cell? w _ hx217_0)).trans hx217_0
                     replace hx217_1 := (HB.out.cell (World.block_lt_of_cell? w _ hx217_1)).trans hx217_1
                     replace p217 := eq_true p217
                     replace q217 := eq_true q217
                     have p218 : 0 ≤ (x12_1 : Int) := of_decide_eq_true (by first | (with_reducible assumption) | assumption)
                     have q218 : x12_1 < (l0.length : Int) := of_decide_eq_true (by first | (with_reducible assumption) | assumption)
                     obtain ⟨ad218, e218, hx218_0, hx218_1⟩ := at_T108 HR0.out x12_1 p218 q218
                     have hw218_1 := hx218_1
                     have hw218_0 := hx218_0
                     obtain rfl : ad217 = ad218 := (by injection e218)
                     replace hx218_0 := (HB.out.cell (World.block_lt_of_cell? w _ hx218_0)).trans hx218_0
                     replace hx218_1 := (HB.out.cell (World.block_lt_of_cell? w _ hx218_1)).trans hx218_1
                     replace p218 := eq_true p218
                     replace q218 := eq_true q218
                     have p219 : 0 ≤ ((ji18) : Int) := of_decide_eq_true (by first | (with_reducible assumption) | assumption)
                     have q219 : (ji18) < (l2.length : Int) := of_decide_eq_true (by first | (with_reducible assumption) | assumption)
                     obtain ⟨ad219, A219_0, c219_0, e219, hx219_0, hl219_0, hi219_0⟩ := at_L12 HR2.out (ji18) p219 q219
                     have hw219_0 := hx219_0
                     cases e219
                     replace hx219_0 := (HB.out.cell (World.block_lt_of_cell? w _ hx219_0)).trans hx219_0
                     have HR219_0 := Aside0.mk hi219_0
                     have HC219_0 := Aside0.mk hl219_0
                     clear hi219_0 hl219_0
                     replace p219 := eq_true p219
                     replace q219 := eq_true q219
                     have p220 : 0 ≤ (x12_1 : Int) := of_decide_eq_true (by first | (with_reducible assumption) | assumption)
                     have q220 : x12_1 < ((rd_L12 l2 (ji18)).length : Int) := of_decide_eq_true (by first | (with_reducible assumption) | assumption)
                     obtain ⟨ad220, e220, hx220_0⟩ := Kd.at_int HR219_0.out x12_1 p220 q220
                     have hw220_0 := hx220_0
                     cases e220
                     replace hx220_0 := (HB.out.cell (World.block_lt_of_cell? w _ hx220_0)).trans hx220_0
                     replace p220 := eq_true p220
                     replace q220 := eq_true q220
                     have p221 : 0 ≤ (a3 : Int) := of_decide_eq_true (by first | (with_reducible assumption) | assumption)
                     have q221 : a3 < (l2.length : Int) := of_decide_eq_true (by first | (with_reducible assumption) | assumption)
                     obtain ⟨ad221, A221_0, c221_0, e221, hx221_0, hl221_0, hi221_0⟩ := at_L12 HR2.out a3 p221 q221
                     have hw221_0 := hx221_0
                     obtain rfl : ad219 = ad221 := (by injection e221)
                     replace hx221_0 := (HB.out.cell (World.block_lt_of_cell? w _ hx221_0)).trans hx221_0
                     have HR221_0 := Aside0.mk hi221_0
                     have HC221_0 := Aside0.mk hl221_0
                     clear hi221_0 hl221_0
                     replace p221 := eq_true p221
                     replace q221 := eq_true q221
                     have p222 : 0 ≤ (a4 : Int) := of_decide_eq_true (by first | (with_reducible assumption) | assumption)
                     have q222 : a4 < ((rd_L12 l2 a3).length : Int) := of_decide_eq_true (by first | (with_reducible assumption) | assumption)
                     obtain ⟨ad222, e222, hx222_0⟩ := Kd.at_int HR221_0.out a4 p222 q222
                     have hw222_0 := hx222_0
                     cases e222
                     replace hx222_0 := (HB.out.cell (World.block_lt_of_cell? w _ hx222_0)).trans hx222_0
                     replace p222 := eq_true p222
                     replace q222 := eq_true q222
                     refine start_ (n := 28) (S := fun w' => w'.cell? (ad217.add ((x12_1).toNat * 2)) = some (.string ((rd_T108 l0 x12_1).f0)) ∧ w'.cell? ⟨(ad217.add ((x12_1).toNat * 2)).block, (ad217.add ((x12_1).toNat * 2)).off + 1, none⟩ = some (.int .i64 ((rd_T108 l0 x12_1).f1)) ∧ w'.cell? (ad217.add ((x12_1).toNat * 2)) = some (.string ((rd_T108 l0 x12_1).f0)) ∧ w'.cell? ⟨(ad217.add ((x12_1).toNat * 2)).block, (ad217.add ((x12_1).toNat * 2)).off + 1, none⟩ = some (.int .i64 ((rd_T108 l0 x12_1).f1)) ∧ w'.cell? (ad219.add ((ji18)).toNat) = some (.slice (some ad220) (rd_L12 l2 (ji18)).length c219_0) ∧ w'.cell? (ad220.add (x12_1).toNat) = some (.int .i64 (rd (rd_L12 l2 (ji18)) x12_1)) ∧ w'.cell? (ad219.add (a3).toNat) = some (.slice (some ad222) (rd_L12 l2 a3).length c221_0) ∧ w'.cell? (ad222.add (a4).toNat) = some (.int .i64 (rd (rd_L12 l2 a3) a4))) (ds := []) #[false, false, false, false, false, false, false, false, false, false, false, false, false, false, false, false, false, false, false, false, false, false, false, false, false, false, false, false] (by kernel_rfl) rfl rfl ⟨((HB.out.cell (World.block_lt_of_cell? w _ hw217_0)).trans hw217_0), ((HB.out.cell (World.block_lt_of_cell? w _ hw217_1)).trans hw217_1), ((HB.out.cell (World.block_lt_of_cell? w _ hw218_0)).trans hw218_0), ((HB.out.cell (World.block_lt_of_cell? w _ hw218_1)).trans hw218_1), ((HB.out.cell (World.block_lt_of_cell? w _ hw219_0)).trans hw219_0), ((HB.out.cell (World.block_lt_of_cell? w _ hw220_0)).trans hw220_0), ((HB.out.cell (World.block_lt_of_cell? w _ hw221_0)).trans hw221_0), ((HB.out.cell (World.block_lt_of_cell? w _ hw222_0)).trans hw222_0)⟩ (fun hHeld => ?_); refine with_tabW spec_l03First.tab8 spec_l03First.bits8 (fun HT_ HW_ => ?_)
                     generalize wc.drew = w34 at HB HR219_0 HR221_0 hx217_0 hx217_1 hx218_0 hx218_1 hx219_0 hx220_0 hx221_0 hx222_0 hHeld ⊢
                     refine pu_ 0 (some 39) HT_ ?_
                     refine pu_ 1 (some 40) HT_ ?_
                     refine pu_ 2 (some 41) HT_ ?_
                     refine pu_ 3 (some 42) HT_ ?_
                     refine pu_ 6 (some 45) HT_ ?_
                     refine pu_ 7 (some 46) HT_ ?_
                     refine pu_ 8 (some 47) HT_ ?_
                     refine pu_ 9 (some 48) HT_ ?_
                     refine pu_ 10 (some 49) HT_ ?_
                     refine pu_ 11 (some 50) HT_ ?_
                     refine pu_ 16 (some 55) HT_ ?_
                     refine pu_ 20 (some 59) HT_ ?_
                     refine pu_ 21 (some 60) HT_ ?_
                     refine pu_ 22 (some 61) HT_ ?_
                     refine pu_ 24 (some 63) HT_ ?_
                     refine tk_ 4 (some 43) HT_ HW_ hHeld rfl (by rintro w' ⟨s0, s1, s2, s3, s4, s5, s6, s7⟩; go_simp; with_reducible rfl) ?_
                     refine pu_ 5 (some 44) HT_ ?_
                     refine tk_ 12 (some 51) HT_ HW_ hHeld rfl (by rintro w' ⟨s0, s1, s2, s3, s4, s5, s6, s7⟩; go_simp; with_reducible rfl) ?_
                     refine pu_ 13 (some 52) HT_ ?_
                     refine pu_ 14 (some 53) HT_ ?_
                     refine tk_ 15 (some 54) HT_ HW_ hHeld rfl (by rintro w' ⟨s0, s1, s2, s3, s4, s5, s6, s7⟩; go_simp; with_reducible rfl) ?_
                     refine pu_ 17 (some 56) HT_ ?_
                     refine tk_ 18 (some 57) HT_ HW_ hHeld rfl (by rintro w' ⟨s0, s1, s2, s3, s4, s5, s6, s7⟩; go_simp; with_reducible rfl) ?_
                     refine pu_ 19 (some 58) HT_ ?_
                     refine tk_ 23 (some 62) HT_ HW_ hHeld rfl (by rintro w' ⟨s0, s1, s2, s3, s4, s5, s6, s7⟩; go_simp; with_reducible rfl) ?_
                     refine pu_ 25 (some 64) HT_ ?_
                     refine tk_ 26 (some 65) HT_ HW_ hHeld rfl (by rintro w' ⟨s0, s1, s2, s3, s4, s5, s6, s7⟩; go_simp; with_reducible rfl) ?_
                     refine pu_ 27 (some 66) HT_ ?_
                     refine done_ (done_of HT_.out (by kernel_rfl)) ?_
                     try go_wp2
                     have n0_ := Aside0.mk (bw1 HB.out)
                     clear HB
                     have HB := n0_
                     clear n0_
                     have p223 : 0 ≤ (x12_1 : Int) := of_decide_eq_true (by first | (with_reducible assumption) | assumption)
                     have q223 : x12_1 < (l0.length : Int) := of_decide_eq_true (by first | (with_reducible assumption) | assumption)
                     obtain ⟨ad223, e223, hx223_0, hx223_1⟩ := at_T108 HR0.out x12_1 p223 q223
                     have hw223_1 := hx223_1
                     have hw223_0 := hx223_0
                     obtain rfl : ad217 = ad223 := (by injection e223)
                     replace hx223_0 := (HB.out.cell (World.block_lt_of_cell? w _ hx223_0)).trans hx223_0
                     replace hx223_1 := (HB.out.cell (World.block_lt_of_cell? w _ hx223_1)).trans hx223_1
                     replace p223 := eq_true p223
                     replace q223 := eq_true q223
                     have p224 : 0 ≤ (x12_1 : Int) := of_decide_eq_true (by first | (with_reducible assumption) | assumption)
                     have q224 : x12_1 < (l0.length : Int) := of_decide_eq_true (by first | (with_reducible assumption) | assumption)
                     obtain ⟨ad224, e224, hx224_0, hx224_1⟩ := at_T108 HR0.out x12_1 p224 q224
                     have hw224_1 := hx224_1
                     have hw224_0 := hx224_0
                     obtain rfl : ad217 = ad224 := (by injection e224)
                     replace hx224_0 := (HB.out.cell (World.block_lt_of_cell? w _ hx224_0)).trans hx224_0
                     replace hx224_1 := (HB.out.cell (World.block_lt_of_cell? w _ hx224_1)).trans hx224_1
                     replace p224 := eq_true p224
                     replace q224 := eq_true q224
                     refine start_ (n := 19) (S := fun w' => w'.cell? (ad217.add ((x12_1).toNat * 2)) = some (.string ((rd_T108 l0 x12_1).f0)) ∧ w'.cell? ⟨(ad217.add ((x12_1).toNat * 2)).block, (ad217.add ((x12_1).toNat * 2)).off + 1, none⟩ = some (.int .i64 ((rd_T108 l0 x12_1).f1)) ∧ w'.cell? (ad217.add ((x12_1).toNat * 2)) = some (.string ((rd_T108 l0 x12_1).f0)) ∧ w'.cell? ⟨(ad217.add ((x12_1).toNat * 2)).block, (ad217.add ((x12_1).toNat * 2)).off + 1, none⟩ = some (.int .i64 ((rd_T108 l0 x12_1).f1))) (ds := []) #[false, false, false, false, false, false, false, false, false, false, false, false, false, false, false, false, false, false, false] (by kernel_rfl) rfl rfl ⟨((HB.out.cell (World.block_lt_of_cell? w _ hw223_0)).trans hw223_0), ((HB.out.cell (World.block_lt_of_cell? w _ hw223_1)).trans hw223_1), ((HB.out.cell (World.block_lt_of_cell? w _ hw224_0)).trans hw224_0), ((HB.out.cell (World.block_lt_of_cell? w _ hw224_1)).trans hw224_1)⟩ (fun hHeld => ?_); refine with_tabW spec_l03First.tab9 spec_l03First.bits9 (fun HT_ HW_ => ?_)
                     generalize w34.drew = w35 at HB hx223_0 hx223_1 hx224_0 hx224_1 hHeld ⊢
                     refine pu_ 0 (some 67) HT_ ?_
                     refine pu_ 1 (some 68) HT_ ?_
                     refine pu_ 2 (some 69) HT_ ?_
                     refine pu_ 3 (some 70) HT_ ?_
                     refine pu_ 5 (some 72) HT_ ?_
                     refine pu_ 6 (some 73) HT_ ?_
                     refine pu_ 7 (some 74) HT_ ?_
                     refine pu_ 8 (some 75) HT_ ?_
                     refine pu_ 9 (some 76) HT_ ?_
                     refine pu_ 10 (some 77) HT_ ?_
                     refine pu_ 11 (some 78) HT_ ?_
                     refine pu_ 12 (some 79) HT_ ?_
                     refine pu_ 15 (some 82) HT_ ?_
                     refine tk_ 4 (some 71) HT_ HW_ hHeld rfl (by rintro w' ⟨s0, s1, s2, s3⟩; go_simp; with_reducible rfl) ?_
                     refine tk_ 13 (some 80) HT_ HW_ hHeld rfl (by rintro w' ⟨s0, s1, s2, s3⟩; go_simp; with_reducible rfl) ?_
                     refine pu_ 14 (some 81) HT_ ?_
                     refine on_ 16 (some 83) HT_ fun K hK => ?_
                     refine goes_ Try.func40 (by kernel_rfl) rfl #[.slice (some ad217) l0.length c0, .slice A1 l1.length c1, .slice (some ad219) l2.length c2, .int .i64 ji18, .int .i64 x12_1] (by rfl) rfl rfl (by (try simp only [List.map_toArray, List.map_cons, List.map_nil]); first | done | (simp only [hji18]; rfl) | rfl | (simp only [List.length_drop, List.length_take]; rfl)) ?_
                     with_reducible refine (ih kj7 (by have := HK1.out; have := HJ7.out; omega) _ _ l0 _ _ l1 _ _ l2 ji18 x12_1 t225 _ ?side1 ?side2 ?side3 ?side4 ?side5 ?side6 A27.out).mono ?_
                     (case side1 => repeat (first | exact (Kd.C_below HR0.out HB.out) | (with_reducible refine Kd.C_alloc ?_ _) | (with_reducible refine Kd.C_drewN ?_ _) | (with_reducible refine Kd.C_drew ?_)))
                     (case side2 => exact HC0.out)
                     (case side3 => repeat (first | exact (Kd.C_below HR1.out HB.out) | (with_reducible refine Kd.C_alloc ?_ _) | (with_reducible refine Kd.C_drewN ?_ _) | (with_reducible refine Kd.C_drew ?_)))
                     (case side4 => exact HC1.out)
                     (case side5 => repeat (first | exact (Kd.C_below HR2.out HB.out) | (with_reducible refine Kd.C_alloc ?_ _) | (with_reducible refine Kd.C_drewN ?_ _) | (with_reducible refine Kd.C_drew ?_)))
                     (case side6 => exact HC2.out)
                     rintro e w36 ⟨rfl, hb⟩
                     refine ⟨_, rfl, ?_⟩
                     have n0_ := Aside0.mk (below_step (by repeat (first | (with_reducible first | exact HB.out | apply bwA | apply pwN | apply bw1) | exact HB.out)) hb)
                     clear HB
                     have HB := n0_
                     clear n0_
                     (try clear hb)
                     (try clear hb2)
                     (try clear hk)
                     (try clear hi)
                     refine hK.out _ _ ⟨((HB.out.cell (World.block_lt_of_cell? w _ hw223_0)).trans hw223_0), ((HB.out.cell (World.block_lt_of_cell? w _ hw223_1)).trans hw223_1), ((HB.out.cell (World.block_lt_of_cell? w _ hw224_0)).trans hw224_0), ((HB.out.cell (World.block_lt_of_cell? w _ hw224_1)).trans hw224_1)⟩ (fun hHeld => ?_)
                     clear hK K
                     refine nm_ (some 83) ?_
                     refine pu_ 17 (some 84) HT_ ?_
                     refine pu_ 18 (some 13) HT_ ?_
                     refine done_ (done_of HT_.out (by kernel_rfl)) ?_
                     try go_wp2
                     go_roundg kj7
                     case measure => have := HK1.out; have := HJ7.out; omega
                     case rel => exact ⟨(((rd_T108 l0 x12_1).f0) ++ t225), (wrap64 (x12_1 + 1)), (by first | rfl | (simp; done) | (simp [*]; done)), (by first | rfl | (simp; done) | (simp [*]; done)), H', ⟨by have := HK1.out; have := HJ7.out; omega⟩, ⟨by repeat (first | (with_reducible first | exact HB.out | apply bwA | apply pwN | apply bw1) | exact HB.out)⟩⟩
                    ·rw [if_neg c33] at H
                     have c33b0 : (Op.bytesLess ((((rd_T108 l0 x12_1).f0) ++ t225).toList) x11_1.toList) = false := by simpa using c33
                     clear c33
                     have H' := Aside0.mk H
                     clear H
                     try go_wp2
                     have n0_ := Aside0.mk (bw1 HB.out)
                     clear HB
                     have HB := n0_
                     clear n0_
                     have p217 : 0 ≤ (x12_1 : Int) := of_decide_eq_true (by first | (with_reducible assumption) | assumption)
                     have q217 : x12_1 < (l0.length : Int) := of_decide_eq_true (by first | (with_reducible assumption) | assumption)
                     obtain ⟨ad217, e217, hx217_0, hx217_1⟩ := at_T108 HR0.out x12_1 p217 q217
                     have hw217_1 := hx217_1
                     have hw217_0 := hx217_0
                     cases e217
                     replace hx217_0 := (HB.out.cell (World.block_lt_of_cell? w _ hx217_0)).trans hx217_0
                     replace hx217_1 := (HB.out.cell (World.block_lt_of_cell? w _ hx217_1)).trans hx217_1
                     replace p217 := eq_true p217
                     replace q217 := eq_true q217
                     have p218 : 0 ≤ (x12_1 : Int) := of_decide_eq_true (by first | (with_reducible assumption) | assumption)
                     have q218 : x12_1 < (l0.length : Int) := of_decide_eq_true (by first | (with_reducible assumption) | assumption)
                     obtain ⟨ad218, e218, hx218_0, hx218_1⟩ := at_T108 HR0.out x12_1 p218 q218
                     have hw218_1 := hx218_1
                     have hw218_0 := hx218_0
                     obtain rfl : ad217 = ad218 := (by injection e218)
                     replace hx218_0 := (HB.out.cell (World.block_lt_of_cell? w _ hx218_0)).trans hx218_0
                     replace hx218_1 := (HB.out.cell (World.block_lt_of_cell? w _ hx218_1)).trans hx218_1
                     replace p218 := eq_true p218
                     replace q218 := eq_true q218
                     have p219 : 0 ≤ ((ji18) : Int) := of_decide_eq_true (by first | (with_reducible assumption) | assumption)
                     have q219 : (ji18) < (l2.length : Int) := of_decide_eq_true (by first | (with_reducible assumption) | assumption)
                     obtain ⟨ad219, A219_0, c219_0, e219, hx219_0, hl219_0, hi219_0⟩ := at_L12 HR2.out (ji18) p219 q219
                     have hw219_0 := hx219_0
                     cases e219
                     replace hx219_0 := (HB.out.cell (World.block_lt_of_cell? w _ hx219_0)).trans hx219_0
                     have HR219_0 := Aside0.mk hi219_0
                     have HC219_0 := Aside0.mk hl219_0
                     clear hi219_0 hl219_0
                     replace p219 := eq_true p219
                     replace q219 := eq_true q219
                     have p220 : 0 ≤ (x12_1 : Int) := of_decide_eq_true (by first | (with_reducible assumption) | assumption)
                     have q220 : x12_1 < ((rd_L12 l2 (ji18)).length : Int) := of_decide_eq_true (by first | (with_reducible assumption) | assumption)
                     obtain ⟨ad220, e220, hx220_0⟩ := Kd.at_int HR219_0.out x12_1 p220 q220
                     have hw220_0 := hx220_0
                     cases e220
                     replace hx220_0 := (HB.out.cell (World.block_lt_of_cell? w _ hx220_0)).trans hx220_0
                     replace p220 := eq_true p220
                     replace q220 := eq_true q220
                     have p221 : 0 ≤ (a3 : Int) := of_decide_eq_true (by first | (with_reducible assumption) | assumption)
                     have q221 : a3 < (l2.length : Int) := of_decide_eq_true (by first | (with_reducible assumption) | assumption)
                     obtain ⟨ad221, A221_0, c221_0, e221, hx221_0, hl221_0, hi221_0⟩ := at_L12 HR2.out a3 p221 q221
                     have hw221_0 := hx221_0
                     obtain rfl : ad219 = ad221 := (by injection e221)
                     replace hx221_0 := (HB.out.cell (World.block_lt_of_cell? w _ hx221_0)).trans hx221_0
                     have HR221_0 := Aside0.mk hi221_0
                     have HC221_0 := Aside0.mk hl221_0
                     clear hi221_0 hl221_0
                     replace p221 := eq_true p221
                     replace q221 := eq_true q221
                     have p222 : 0 ≤ (a4 : Int) := of_decide_eq_true (by first | (with_reducible assumption) | assumption)
                     have q222 : a4 < ((rd_L12 l2 a3).length : Int) := of_decide_eq_true (by first | (with_reducible assumption) | assumption)
                     obtain ⟨ad222, e222, hx222_0⟩ := Kd.at_int HR221_0.out a4 p222 q222
                     have hw222_0 := hx222_0
                     cases e222
                     replace hx222_0 := (HB.out.cell (World.block_lt_of_cell? w _ hx222_0)).trans hx222_0
                     replace p222 := eq_true p222
                     replace q222 := eq_true q222
                     refine start_ (n := 28) (S := fun w' => w'.cell? (ad217.add ((x12_1).toNat * 2)) = some (.string ((rd_T108 l0 x12_1).f0)) ∧ w'.cell? ⟨(ad217.add ((x12_1).toNat * 2)).block, (ad217.add ((x12_1).toNat * 2)).off + 1, none⟩ = some (.int .i64 ((rd_T108 l0 x12_1).f1)) ∧ w'.cell? (ad217.add ((x12_1).toNat * 2)) = some (.string ((rd_T108 l0 x12_1).f0)) ∧ w'.cell? ⟨(ad217.add ((x12_1).toNat * 2)).block, (ad217.add ((x12_1).toNat * 2)).off + 1, none⟩ = some (.int .i64 ((rd_T108 l0 x12_1).f1)) ∧ w'.cell? (ad219.add ((ji18)).toNat) = some (.slice (some ad220) (rd_L12 l2 (ji18)).length c219_0) ∧ w'.cell? (ad220.add (x12_1).toNat) = some (.int .i64 (rd (rd_L12 l2 (ji18)) x12_1)) ∧ w'.cell? (ad219.add (a3).toNat) = some (.slice (some ad222) (rd_L12 l2 a3).length c221_0) ∧ w'.cell? (ad222.add (a4).toNat) = some (.int .i64 (rd (rd_L12 l2 a3) a4))) (ds := []) #[false, false, false, false, false, false, false, false, false, false, false, false, false, false, false, false, false, false, false, false, false, false, false, false, false, false, false, false] (by kernel_rfl) rfl rfl ⟨((HB.out.cell (World.block_lt_of_cell? w _ hw217_0)).trans hw217_0), ((HB.out.cell (World.block_lt_of_cell? w _ hw217_1)).trans hw217_1), ((HB.out.cell (World.block_lt_of_cell? w _ hw218_0)).trans hw218_0), ((HB.out.cell (World.block_lt_of_cell? w _ hw218_1)).trans hw218_1), ((HB.out.cell (World.block_lt_of_cell? w _ hw219_0)).trans hw219_0), ((HB.out.cell (World.block_lt_of_cell? w _ hw220_0)).trans hw220_0), ((HB.out.cell (World.block_lt_of_cell? w _ hw221_0)).trans hw221_0), ((HB.out.cell (World.block_lt_of_cell? w _ hw222_0)).trans hw222_0)⟩ (fun hHeld => ?_); refine with_tabW spec_l03First.tab8 spec_l03First.bits8 (fun HT_ HW_ => ?_)
                     generalize wc.drew = w37 at HB HR219_0 HR221_0 hx217_0 hx217_1 hx218_0 hx218_1 hx219_0 hx220_0 hx221_0 hx222_0 hHeld ⊢
                     refine pu_ 0 (some 39) HT_ ?_
                     refine pu_ 1 (some 40) HT_ ?_
                     refine pu_ 2 (some 41) HT_ ?_
                     refine pu_ 3 (some 42) HT_ ?_
                     refine pu_ 6 (some 45) HT_ ?_
                     refine pu_ 7 (some 46) HT_ ?_
                     refine pu_ 8 (some 47) HT_ ?_
                     refine pu_ 9 (some 48) HT_ ?_
                     refine pu_ 10 (some 49) HT_ ?_
                     refine pu_ 11 (some 50) HT_ ?_
                     refine pu_ 16 (some 55) HT_ ?_
                     refine pu_ 20 (some 59) HT_ ?_
                     refine pu_ 21 (some 60) HT_ ?_
                     refine pu_ 22 (some 61) HT_ ?_
                     refine pu_ 24 (some 63) HT_ ?_
                     refine tk_ 4 (some 43) HT_ HW_ hHeld rfl (by rintro w' ⟨s0, s1, s2, s3, s4, s5, s6, s7⟩; go_simp; with_reducible rfl) ?_
                     refine pu_ 5 (some 44) HT_ ?_
                     refine tk_ 12 (some 51) HT_ HW_ hHeld rfl (by rintro w' ⟨s0, s1, s2, s3, s4, s5, s6, s7⟩; go_simp; with_reducible rfl) ?_
                     refine pu_ 13 (some 52) HT_ ?_
                     refine pu_ 14 (some 53) HT_ ?_
                     refine tk_ 15 (some 54) HT_ HW_ hHeld rfl (by rintro w' ⟨s0, s1, s2, s3, s4, s5, s6, s7⟩; go_simp; with_reducible rfl) ?_
                     refine pu_ 17 (some 56) HT_ ?_
                     refine tk_ 18 (some 57) HT_ HW_ hHeld rfl (by rintro w' ⟨s0, s1, s2, s3, s4, s5, s6, s7⟩; go_simp; with_reducible rfl) ?_
                     refine pu_ 19 (some 58) HT_ ?_
                     refine tk_ 23 (some 62) HT_ HW_ hHeld rfl (by rintro w' ⟨s0, s1, s2, s3, s4, s5, s6, s7⟩; go_simp; with_reducible rfl) ?_
                     refine pu_ 25 (some 64) HT_ ?_
                     refine tk_ 26 (some 65) HT_ HW_ hHeld rfl (by rintro w' ⟨s0, s1, s2, s3, s4, s5, s6, s7⟩; go_simp; with_reducible rfl) ?_
                     refine pu_ 27 (some 66) HT_ ?_
                     refine done_ (done_of HT_.out (by kernel_rfl)) ?_
                     try go_wp2
                     have n0_ := Aside0.mk (bw1 HB.out)
                     clear HB
                     have HB := n0_
                     clear n0_
                     have p223 : 0 ≤ (x12_1 : Int) := of_decide_eq_true (by first | (with_reducible assumption) | assumption)
                     have q223 : x12_1 < (l0.length : Int) := of_decide_eq_true (by first | (with_reducible assumption) | assumption)
                     obtain ⟨ad223, e223, hx223_0, hx223_1⟩ := at_T108 HR0.out x12_1 p223 q223
                     have hw223_1 := hx223_1
                     have hw223_0 := hx223_0
                     obtain rfl : ad217 = ad223 := (by injection e223)
                     replace hx223_0 := (HB.out.cell (World.block_lt_of_cell? w _ hx223_0)).trans hx223_0
                     replace hx223_1 := (HB.out.cell (World.block_lt_of_cell? w _ hx223_1)).trans hx223_1
                     replace p223 := eq_true p223
                     replace q223 := eq_true q223
                     have p224 : 0 ≤ (x12_1 : Int) := of_decide_eq_true (by first | (with_reducible assumption) | assumption)
                     have q224 : x12_1 < (l0.length : Int) := of_decide_eq_true (by first | (with_reducible assumption) | assumption)
                     obtain ⟨ad224, e224, hx224_0, hx224_1⟩ := at_T108 HR0.out x12_1 p224 q224
                     have hw224_1 := hx224_1
                     have hw224_0 := hx224_0
                     obtain rfl : ad217 = ad224 := (by injection e224)
                     replace hx224_0 := (HB.out.cell (World.block_lt_of_cell? w _ hx224_0)).trans hx224_0
                     replace hx224_1 := (HB.out.cell (World.block_lt_of_cell? w _ hx224_1)).trans hx224_1
                     replace p224 := eq_true p224
                     replace q224 := eq_true q224
                     refine start_ (n := 19) (S := fun w' => w'.cell? (ad217.add ((x12_1).toNat * 2)) = some (.string ((rd_T108 l0 x12_1).f0)) ∧ w'.cell? ⟨(ad217.add ((x12_1).toNat * 2)).block, (ad217.add ((x12_1).toNat * 2)).off + 1, none⟩ = some (.int .i64 ((rd_T108 l0 x12_1).f1)) ∧ w'.cell? (ad217.add ((x12_1).toNat * 2)) = some (.string ((rd_T108 l0 x12_1).f0)) ∧ w'.cell? ⟨(ad217.add ((x12_1).toNat * 2)).block, (ad217.add ((x12_1).toNat * 2)).off + 1, none⟩ = some (.int .i64 ((rd_T108 l0 x12_1).f1))) (ds := []) #[false, false, false, false, false, false, false, false, false, false, false, false, false, false, false, false, false, false, false] (by kernel_rfl) rfl rfl ⟨((HB.out.cell (World.block_lt_of_cell? w _ hw223_0)).trans hw223_0), ((HB.out.cell (World.block_lt_of_cell? w _ hw223_1)).trans hw223_1), ((HB.out.cell (World.block_lt_of_cell? w _ hw224_0)).trans hw224_0), ((HB.out.cell (World.block_lt_of_cell? w _ hw224_1)).trans hw224_1)⟩ (fun hHeld => ?_); refine with_tabW spec_l03First.tab9 spec_l03First.bits9 (fun HT_ HW_ => ?_)
                     generalize w37.drew = w38 at HB hx223_0 hx223_1 hx224_0 hx224_1 hHeld ⊢
                     refine pu_ 0 (some 67) HT_ ?_
                     refine pu_ 1 (some 68) HT_ ?_
                     refine pu_ 2 (some 69) HT_ ?_
                     refine pu_ 3 (some 70) HT_ ?_
                     refine pu_ 5 (some 72) HT_ ?_
                     refine pu_ 6 (some 73) HT_ ?_
                     refine pu_ 7 (some 74) HT_ ?_
                     refine pu_ 8 (some 75) HT_ ?_
                     refine pu_ 9 (some 76) HT_ ?_
                     refine pu_ 10 (some 77) HT_ ?_
                     refine pu_ 11 (some 78) HT_ ?_
                     refine pu_ 12 (some 79) HT_ ?_
                     refine pu_ 15 (some 82) HT_ ?_
                     refine tk_ 4 (some 71) HT_ HW_ hHeld rfl (by rintro w' ⟨s0, s1, s2, s3⟩; go_simp; with_reducible rfl) ?_
                     refine tk_ 13 (some 80) HT_ HW_ hHeld rfl (by rintro w' ⟨s0, s1, s2, s3⟩; go_simp; with_reducible rfl) ?_
                     refine pu_ 14 (some 81) HT_ ?_
                     refine on_ 16 (some 83) HT_ fun K hK => ?_
                     refine goes_ Try.func40 (by kernel_rfl) rfl #[.slice (some ad217) l0.length c0, .slice A1 l1.length c1, .slice (some ad219) l2.length c2, .int .i64 ji18, .int .i64 x12_1] (by rfl) rfl rfl (by (try simp only [List.map_toArray, List.map_cons, List.map_nil]); first | done | (simp only [hji18]; rfl) | rfl | (simp only [List.length_drop, List.length_take]; rfl)) ?_
                     with_reducible refine (ih kj7 (by have := HK1.out; have := HJ7.out; omega) _ _ l0 _ _ l1 _ _ l2 ji18 x12_1 t225 _ ?side1 ?side2 ?side3 ?side4 ?side5 ?side6 A27.out).mono ?_
                     (case side1 => repeat (first | exact (Kd.C_below HR0.out HB.out) | (with_reducible refine Kd.C_alloc ?_ _) | (with_reducible refine Kd.C_drewN ?_ _) | (with_reducible refine Kd.C_drew ?_)))
                     (case side2 => exact HC0.out)
                     (case side3 => repeat (first | exact (Kd.C_below HR1.out HB.out) | (with_reducible refine Kd.C_alloc ?_ _) | (with_reducible refine Kd.C_drewN ?_ _) | (with_reducible refine Kd.C_drew ?_)))
                     (case side4 => exact HC1.out)
                     (case side5 => repeat (first | exact (Kd.C_below HR2.out HB.out) | (with_reducible refine Kd.C_alloc ?_ _) | (with_reducible refine Kd.C_drewN ?_ _) | (with_reducible refine Kd.C_drew ?_)))
                     (case side6 => exact HC2.out)
                     rintro e w39 ⟨rfl, hb⟩
                     refine ⟨_, rfl, ?_⟩
                     have n0_ := Aside0.mk (below_step (by repeat (first | (with_reducible first | exact HB.out | apply bwA | apply pwN | apply bw1) | exact HB.out)) hb)
                     clear HB
                     have HB := n0_
                     clear n0_
                     (try clear hb)
                     (try clear hb2)
                     (try clear hk)
                     (try clear hi)
                     refine hK.out _ _ ⟨((HB.out.cell (World.block_lt_of_cell? w _ hw223_0)).trans hw223_0), ((HB.out.cell (World.block_lt_of_cell? w _ hw223_1)).trans hw223_1), ((HB.out.cell (World.block_lt_of_cell? w _ hw224_0)).trans hw224_0), ((HB.out.cell (World.block_lt_of_cell? w _ hw224_1)).trans hw224_1)⟩ (fun hHeld => ?_)
                     clear hK K
                     refine nm_ (some 83) ?_
                     refine pu_ 17 (some 84) HT_ ?_
                     refine pu_ 18 (some 13) HT_ ?_
                     refine done_ (done_of HT_.out (by kernel_rfl)) ?_
                     try go_wp2
                     go_roundg kj7
                     case measure => have := HK1.out; have := HJ7.out; omega
                     case rel => exact ⟨(x11_1), (wrap64 (x12_1 + 1)), (by first | rfl | (simp; done) | (simp [*]; done)), (by first | rfl | (simp; done) | (simp [*]; done)), H', ⟨by have := HK1.out; have := HJ7.out; omega⟩, ⟨by repeat (first | (with_reducible first | exact HB.out | apply bwA | apply pwN | apply bw1) | exact HB.out)⟩⟩
                  ·rw [if_neg c28] at H
                   exact absurd H (by simp)
                 ·rw [if_neg c26] at H
                  have c26b0 : ((wrap64 ((((rd_T108 l0 x12_1).f0).size : Int) + (rd (rd_L12 l2 (ji18)) x12_1))) == (rd (rd_L12 l2 a3) a4)) = false := beq_eq_false_iff_ne.mpr c26
                  have c26b1 : ((wrap64 ((((rd_T108 l0 x12_1).f0).size : Int) + (rd (rd_L12 l2 (ji18)) x12_1))) != (rd (rd_L12 l2 a3) a4)) = true := bne_iff_ne.mpr c26
                  have H' := Aside0.mk H
                  clear H
                  try go_wp2
                  have n0_ := Aside0.mk (bw1 HB.out)
                  clear HB
                  have HB := n0_
                  clear n0_
                  have p217 : 0 ≤ (x12_1 : Int) := of_decide_eq_true (by first | (with_reducible assumption) | assumption)
                  have q217 : x12_1 < (l0.length : Int) := of_decide_eq_true (by first | (with_reducible assumption) | assumption)
                  obtain ⟨ad217, e217, hx217_0, hx217_1⟩ := at_T108 HR0.out x12_1 p217 q217
                  have hw217_1 := hx217_1
                  have hw217_0 := hx217_0
                  cases e217
                  replace hx217_0 := (HB.out.cell (World.block_lt_of_cell? w _ hx217_0)).trans hx217_0
                  replace hx217_1 := (HB.out.cell (World.block_lt_of_cell? w _ hx217_1)).trans hx217_1
                  replace p217 := eq_true p217
                  replace q217 := eq_true q217
                  have p218 : 0 ≤ (x12_1 : Int) := of_decide_eq_true (by first | (with_reducible assumption) | assumption)
                  have q218 : x12_1 < (l0.length : Int) := of_decide_eq_true (by first | (with_reducible assumption) | assumption)
                  obtain ⟨ad218, e218, hx218_0, hx218_1⟩ := at_T108 HR0.out x12_1 p218 q218
                  have hw218_1 := hx218_1
                  have hw218_0 := hx218_0
                  obtain rfl : ad217 = ad218 := (by injection e218)
                  replace hx218_0 := (HB.out.cell (World.block_lt_of_cell? w _ hx218_0)).trans hx218_0
                  replace hx218_1 := (HB.out.cell (World.block_lt_of_cell? w _ hx218_1)).trans hx218_1
                  replace p218 := eq_true p218
                  replace q218 := eq_true q218
                  have p219 : 0 ≤ ((ji18) : Int) := of_decide_eq_true (by first | (with_reducible assumption) | assumption)
                  have q219 : (ji18) < (l2.length : Int) := of_decide_eq_true (by first | (with_reducible assumption) | assumption)
                  obtain ⟨ad219, A219_0, c219_0, e219, hx219_0, hl219_0, hi219_0⟩ := at_L12 HR2.out (ji18) p219 q219
                  have hw219_0 := hx219_0
                  cases e219
                  replace hx219_0 := (HB.out.cell (World.block_lt_of_cell? w _ hx219_0)).trans hx219_0
                  have HR219_0 := Aside0.mk hi219_0
                  have HC219_0 := Aside0.mk hl219_0
                  clear hi219_0 hl219_0
                  replace p219 := eq_true p219
                  replace q219 := eq_true q219
                  have p220 : 0 ≤ (x12_1 : Int) := of_decide_eq_true (by first | (with_reducible assumption) | assumption)
                  have q220 : x12_1 < ((rd_L12 l2 (ji18)).length : Int) := of_decide_eq_true (by first | (with_reducible assumption) | assumption)
                  obtain ⟨ad220, e220, hx220_0⟩ := Kd.at_int HR219_0.out x12_1 p220 q220
                  have hw220_0 := hx220_0
                  cases e220
                  replace hx220_0 := (HB.out.cell (World.block_lt_of_cell? w _ hx220_0)).trans hx220_0
                  replace p220 := eq_true p220
                  replace q220 := eq_true q220
                  have p221 : 0 ≤ (a3 : Int) := of_decide_eq_true (by first | (with_reducible assumption) | assumption)
                  have q221 : a3 < (l2.length : Int) := of_decide_eq_true (by first | (with_reducible assumption) | assumption)
                  obtain ⟨ad221, A221_0, c221_0, e221, hx221_0, hl221_0, hi221_0⟩ := at_L12 HR2.out a3 p221 q221
                  have hw221_0 := hx221_0
                  obtain rfl : ad219 = ad221 := (by injection e221)
                  replace hx221_0 := (HB.out.cell (World.block_lt_of_cell? w _ hx221_0)).trans hx221_0
                  have HR221_0 := Aside0.mk hi221_0
                  have HC221_0 := Aside0.mk hl221_0
                  clear hi221_0 hl221_0
                  replace p221 := eq_true p221
                  replace q221 := eq_true q221
                  have p222 : 0 ≤ (a4 : Int) := of_decide_eq_true (by first | (with_reducible assumption) | assumption)
                  have q222 : a4 < ((rd_L12 l2 a3).length : Int) := of_decide_eq_true (by first | (with_reducible assumption) | assumption)
                  obtain ⟨ad222, e222, hx222_0⟩ := Kd.at_int HR221_0.out a4 p222 q222
                  have hw222_0 := hx222_0
                  cases e222
                  replace hx222_0 := (HB.out.cell (World.block_lt_of_cell? w _ hx222_0)).trans hx222_0
                  replace p222 := eq_true p222
                  replace q222 := eq_true q222
                  refine start_ (n := 28) (S := fun w' => w'.cell? (ad217.add ((x12_1).toNat * 2)) = some (.string ((rd_T108 l0 x12_1).f0)) ∧ w'.cell? ⟨(ad217.add ((x12_1).toNat * 2)).block, (ad217.add ((x12_1).toNat * 2)).off + 1, none⟩ = some (.int .i64 ((rd_T108 l0 x12_1).f1)) ∧ w'.cell? (ad217.add ((x12_1).toNat * 2)) = some (.string ((rd_T108 l0 x12_1).f0)) ∧ w'.cell? ⟨(ad217.add ((x12_1).toNat * 2)).block, (ad217.add ((x12_1).toNat * 2)).off + 1, none⟩ = some (.int .i64 ((rd_T108 l0 x12_1).f1)) ∧ w'.cell? (ad219.add ((ji18)).toNat) = some (.slice (some ad220) (rd_L12 l2 (ji18)).length c219_0) ∧ w'.cell? (ad220.add (x12_1).toNat) = some (.int .i64 (rd (rd_L12 l2 (ji18)) x12_1)) ∧ w'.cell? (ad219.add (a3).toNat) = some (.slice (some ad222) (rd_L12 l2 a3).length c221_0) ∧ w'.cell? (ad222.add (a4).toNat) = some (.int .i64 (rd (rd_L12 l2 a3) a4))) (ds := []) #[false, false, false, false, false, false, false, false, false, false, false, false, false, false, false, false, false, false, false, false, false, false, false, false, false, false, false, false] (by kernel_rfl) rfl rfl ⟨((HB.out.cell (World.block_lt_of_cell? w _ hw217_0)).trans hw217_0), ((HB.out.cell (World.block_lt_of_cell? w _ hw217_1)).trans hw217_1), ((HB.out.cell (World.block_lt_of_cell? w _ hw218_0)).trans hw218_0), ((HB.out.cell (World.block_lt_of_cell? w _ hw218_1)).trans hw218_1), ((HB.out.cell (World.block_lt_of_cell? w _ hw219_0)).trans hw219_0), ((HB.out.cell (World.block_lt_of_cell? w _ hw220_0)).trans hw220_0), ((HB.out.cell (World.block_lt_of_cell? w _ hw221_0)).trans hw221_0), ((HB.out.cell (World.block_lt_of_cell? w _ hw222_0)).trans hw222_0)⟩ (fun hHeld => ?_); refine with_tabW spec_l03First.tab8 spec_l03First.bits8 (fun HT_ HW_ => ?_)
                  generalize wc.drew = w40 at HB HR219_0 HR221_0 hx217_0 hx217_1 hx218_0 hx218_1 hx219_0 hx220_0 hx221_0 hx222_0 hHeld ⊢
                  refine pu_ 0 (some 39) HT_ ?_
                  refine pu_ 1 (some 40) HT_ ?_
                  refine pu_ 2 (some 41) HT_ ?_
                  refine pu_ 3 (some 42) HT_ ?_
                  refine pu_ 6 (some 45) HT_ ?_
                  refine pu_ 7 (some 46) HT_ ?_
                  refine pu_ 8 (some 47) HT_ ?_
                  refine pu_ 9 (some 48) HT_ ?_
                  refine pu_ 10 (some 49) HT_ ?_
                  refine pu_ 11 (some 50) HT_ ?_
                  refine pu_ 16 (some 55) HT_ ?_
                  refine pu_ 20 (some 59) HT_ ?_
                  refine pu_ 21 (some 60) HT_ ?_
                  refine pu_ 22 (some 61) HT_ ?_
                  refine pu_ 24 (some 63) HT_ ?_
                  refine tk_ 4 (some 43) HT_ HW_ hHeld rfl (by rintro w' ⟨s0, s1, s2, s3, s4, s5, s6, s7⟩; go_simp; with_reducible rfl) ?_
                  refine pu_ 5 (some 44) HT_ ?_
                  refine tk_ 12 (some 51) HT_ HW_ hHeld rfl (by rintro w' ⟨s0, s1, s2, s3, s4, s5, s6, s7⟩; go_simp; with_reducible rfl) ?_
                  refine pu_ 13 (some 52) HT_ ?_
                  refine pu_ 14 (some 53) HT_ ?_
                  refine tk_ 15 (some 54) HT_ HW_ hHeld rfl (by rintro w' ⟨s0, s1, s2, s3, s4, s5, s6, s7⟩; go_simp; with_reducible rfl) ?_
                  refine pu_ 17 (some 56) HT_ ?_
                  refine tk_ 18 (some 57) HT_ HW_ hHeld rfl (by rintro w' ⟨s0, s1, s2, s3, s4, s5, s6, s7⟩; go_simp; with_reducible rfl) ?_
                  refine pu_ 19 (some 58) HT_ ?_
                  refine tk_ 23 (some 62) HT_ HW_ hHeld rfl (by rintro w' ⟨s0, s1, s2, s3, s4, s5, s6, s7⟩; go_simp; with_reducible rfl) ?_
                  refine pu_ 25 (some 64) HT_ ?_
                  refine tk_ 26 (some 65) HT_ HW_ hHeld rfl (by rintro w' ⟨s0, s1, s2, s3, s4, s5, s6, s7⟩; go_simp; with_reducible rfl) ?_
                  refine pu_ 27 (some 66) HT_ ?_
                  refine done_ (done_of HT_.out (by kernel_rfl)) ?_
                  try go_wp2
                  go_roundg kj7
                  case measure => have := HK1.out; have := HJ7.out; omega
                  case rel => exact ⟨(x11_1), (wrap64 (x12_1 + 1)), (by first | rfl | (simp; done) | (simp [*]; done)), (by first | rfl | (simp; done) | (simp [*]; done)), H', ⟨by have := HK1.out; have := HJ7.out; omega⟩, ⟨by repeat (first | (with_reducible first | exact HB.out | apply bwA | apply pwN | apply bw1) | exact HB.out)⟩⟩
                ·rw [if_neg c25] at H
                 exact absurd H (by simp)
               ·rw [if_neg c24] at H
                exact absurd H (by simp)
              ·rw [if_neg c23] at H
               exact absurd H (by simp)
             ·rw [if_neg c22] at H
              exact absurd H (by simp)
            ·rw [if_neg c21] at H
             exact absurd H (by simp)
           ·rw [if_neg c20] at H
            exact absurd H (by simp)
          ·rw [if_neg c19] at H
           exact absurd H (by simp)
         ·rw [if_neg c17] at H
          exact absurd H (by simp)
        ·rw [if_neg c16] at H
         exact absurd H (by simp)
    ·rw [if_neg c7] at H
     have c7b0 : decide (x12_1 < (l0.length : Int)) = false := decide_eq_false c7
     clear c7
     obtain rfl := Option.some.inj H
     go_wp2
     go_ret
     exact ⟨by first | rfl | (simp [errW_none, errW_some, i64_w]; done) | (simp [errW_none, errW_some] <;> rfl) | (simp [*, errW_none, errW_some] <;> rfl), by repeat (first | (with_reducible first | exact HB.out | apply bwA | apply pwN | apply bw1) | exact HB.out)⟩
end Go.Proofs.Ytlepbhlbooajmaa.Q
namespace Go.Proofs.Ytlepbhlbooajmaa.Ext
end Go.Proofs.Ytlepbhlbooajmaa.Ext
namespace Go.Proofs.Ytlepbhlbooajmaa.Q
open Go.Proofs.Ytlepbhlbooajmaa.Ext
open Go.RowKit Go.Proofs.YtlepbhlbooajmaaW.PrintWords Go.Proofs.YtlepbhlbooajmaaW.PrintLast Go.Proofs.YtlepbhlbooajmaaW.PrintMore
attribute [local go_sem] max2_int min2_int max_two min_two max_three min_three max_four min_four
set_option linter.unusedVariables false
set_option linter.unusedSimpArgs false
def impl_fewest.f (l0 : List (List Int)) (a1 : Int) : Option (Int) := if a1 = 0 then (some 0) else (if 0 ≤ a1 then (if a1 < (l0.length : Int) then ((slices_Min_int8_int8.f (rd_L18 l0 a1)).bind fun t316 => (if t316 > 16 then (some 100) else (some t316))) else (none)) else (none))
set_option maxHeartbeats 8000000 in
set_option maxRecDepth 100000 in
theorem impl_fewest.calls (A0 : Option Addr) (c0 : Nat) (l0 : List (List Int)) (a1 : Int) (r : Int) (w : World) (hr0 : Kd.C (Kd.slice 39 (Kd.int .i8)) w A0 l0.length l0) (hc0 : l0.length ≤ c0) (h : impl_fewest.f l0 a1 = some r) :
  Calls Try.prog 42 #[.slice A0 l0.length c0, .int .i64 a1] w fun e w' => e = .returned (.int .i8 r) ∧ Below w.heap.size w w' := by
 have HR0 := Aside0.mk hr0
 have HC0 := Aside0.mk hc0
 clear hr0 hc0
 have HB := Aside0.mk (Below.refl w.heap.size w)
 have H : (if a1 = 0 then (some 0) else (if 0 ≤ a1 then (if a1 < (l0.length : Int) then ((slices_Min_int8_int8.f (rd_L18 l0 a1)).bind fun t316 => (if t316 > 16 then (some 100) else (some t316))) else (none)) else (none))) = some r := h
 clear h
 by_cases c3 : a1 = 0
 ·rw [if_pos c3] at H
  have c3b0 : (a1 == 0) = true := beq_iff_eq.mpr c3
  have c3b1 : (a1 != 0) = false := bne_eq_false_iff_eq.mpr c3
  clear c3
  obtain rfl := Option.some.inj H
  go_enter Try.func42, Try.ntmps42
  go_wp2
  go_ret
  exact ⟨by first | rfl | (simp [errW_none, errW_some, i64_w]; done) | (simp [errW_none, errW_some] <;> rfl) | (simp [*, errW_none, errW_some] <;> rfl), by repeat (first | (with_reducible first | exact HB.out | apply bwA | apply pwN | apply bw1) | exact HB.out)⟩
 ·rw [if_neg c3] at H
  have c3b0 : (a1 == 0) = false := beq_eq_false_iff_ne.mpr c3
  have c3b1 : (a1 != 0) = true := bne_iff_ne.mpr c3
  by_cases c4 : 0 ≤ a1
  ·rw [if_pos c4] at H
   have c4b0 : decide (0 ≤ a1) = true := decide_eq_true c4
   clear c4
   by_cases c5 : a1 < (l0.length : Int)
   ·rw [if_pos c5] at H
    have c5b0 : decide (a1 < (l0.length : Int)) = true := decide_eq_true c5
    clear c5
    replace H := Option.bind_eq_some_iff.mp H
    obtain ⟨t316, A60, H⟩ := H
    (try dsimp only at H)
    have A6 := Aside0.mk A60
    clear A60
    by_cases c7 : t316 > 16
    ·rw [if_pos c7] at H
     have c7b0 : decide (16 < t316) = true := decide_eq_true c7
     clear c7
     obtain rfl := Option.some.inj H
     have p315 : 0 ≤ (a1 : Int) := of_decide_eq_true (by first | (with_reducible assumption) | assumption)
     have q315 : a1 < (l0.length : Int) := of_decide_eq_true (by first | (with_reducible assumption) | assumption)
     obtain ⟨ad315, A315_0, c315_0, e315, hx315_0, hl315_0, hi315_0⟩ := at_L18 HR0.out a1 p315 q315
     cases e315
     have HR315_0 := Aside0.mk hi315_0
     have HC315_0 := Aside0.mk hl315_0
     clear hi315_0 hl315_0
     replace p315 := eq_true p315
     replace q315 := eq_true q315
     go_enter Try.func42, Try.ntmps42
     go_wp2_with (first | ((with_reducible refine gate_callee (f := 70) rfl ?_); refine goesL_ (some 12) rfl rfl Try.func70 (by kernel_rfl) rfl #[.slice A315_0 (rd_L18 l0 a1).length c315_0] rfl (by (try simp only [List.map_toArray, List.map_cons, List.map_nil]); first | done | rfl | (simp only [List.length_drop, List.length_take]; rfl)) ?_; (with_reducible refine (slices_Min_int8_int8.calls _ _ (rd_L18 l0 a1) t316 _ ?side1 ?side2 A6.out).mono ?_); (case side1 => repeat (first | exact HR315_0.out | (with_reducible refine Kd.C_alloc ?_ _) | (with_reducible refine Kd.C_drewN ?_ _) | (with_reducible refine Kd.C_drew ?_))); (case side2 => exact HC315_0.out); rintro e w8 ⟨rfl, hb⟩; refine ⟨_, rfl, ?_⟩; have n0_ := Aside0.mk (below_step (by repeat (first | (with_reducible first | exact HB.out | apply bwA | apply pwN | apply bw1) | exact HB.out)) hb); clear HB; have HB := n0_; clear n0_; (try clear hb); (try clear hb2); (try clear hk); (try clear hi)))
     go_ret
     exact ⟨by first | rfl | (simp [errW_none, errW_some, i64_w]; done) | (simp [errW_none, errW_some] <;> rfl) | (simp [*, errW_none, errW_some] <;> rfl), by repeat (first | (with_reducible first | exact HB.out | apply bwA | apply pwN | apply bw1) | exact HB.out)⟩
    ·rw [if_neg c7] at H
     have c7b0 : decide (16 < t316) = false := decide_eq_false c7
     clear c7
     obtain rfl := Option.some.inj H
     have p315 : 0 ≤ (a1 : Int) := of_decide_eq_true (by first | (with_reducible assumption) | assumption)
     have q315 : a1 < (l0.length : Int) := of_decide_eq_true (by first | (with_reducible assumption) | assumption)
     obtain ⟨ad315, A315_0, c315_0, e315, hx315_0, hl315_0, hi315_0⟩ := at_L18 HR0.out a1 p315 q315
     cases e315
     have HR315_0 := Aside0.mk hi315_0
     have HC315_0 := Aside0.mk hl315_0
     clear hi315_0 hl315_0
     replace p315 := eq_true p315
     replace q315 := eq_true q315
     go_enter Try.func42, Try.ntmps42
     go_wp2_with (first | ((with_reducible refine gate_callee (f := 70) rfl ?_); refine goesL_ (some 12) rfl rfl Try.func70 (by kernel_rfl) rfl #[.slice A315_0 (rd_L18 l0 a1).length c315_0] rfl (by (try simp only [List.map_toArray, List.map_cons, List.map_nil]); first | done | rfl | (simp only [List.length_drop, List.length_take]; rfl)) ?_; (with_reducible refine (slices_Min_int8_int8.calls _ _ (rd_L18 l0 a1) t316 _ ?side1 ?side2 A6.out).mono ?_); (case side1 => repeat (first | exact HR315_0.out | (with_reducible refine Kd.C_alloc ?_ _) | (with_reducible refine Kd.C_drewN ?_ _) | (with_reducible refine Kd.C_drew ?_))); (case side2 => exact HC315_0.out); rintro e w9 ⟨rfl, hb⟩; refine ⟨_, rfl, ?_⟩; have n0_ := Aside0.mk (below_step (by repeat (first | (with_reducible first | exact HB.out | apply bwA | apply pwN | apply bw1) | exact HB.out)) hb); clear HB; have HB := n0_; clear n0_; (try clear hb); (try clear hb2); (try clear hk); (try clear hi)))
     go_ret
     exact ⟨by first | rfl | (simp [errW_none, errW_some, i64_w]; done) | (simp [errW_none, errW_some] <;> rfl) | (simp [*, errW_none, errW_some] <;> rfl), by repeat (first | (with_reducible first | exact HB.out | apply bwA | apply pwN | apply bw1) | exact HB.out)⟩
   ·rw [if_neg c5] at H
    exact absurd H (by simp)
  ·rw [if_neg c4] at H
   exact absurd H (by simp)
end Go.Proofs.Ytlepbhlbooajmaa.Q
namespace Go.Proofs.Ytlepbhlbooajmaa.Pure
open Go.RowKit Go.Proofs.Ytlepbhlbooajmaa.Ext Go.Proofs.Ytlepbhlbooajmaa.Q Go.Proofs.YtlepbhlbooajmaaW.PrintWords Go.Proofs.YtlepbhlbooajmaaW.PrintLast Go.Proofs.YtlepbhlbooajmaaW.PrintMore
set_option linter.unusedVariables false
set_option linter.unusedSimpArgs false
def noText : ByteArray := (⟨#[]⟩ : ByteArray)
def upd (best text : ByteArray) : ByteArray := if best.toList = ([] : List UInt8) then text else if Op.bytesLess text.toList best.toList = true then text else best
theorem upd_size (best text : ByteArray) (B : Nat) (h1 : best.size ≤ B) (h2 : text.size ≤ B) : (upd best text).size ≤ B := by unfold upd; split <;> (try split) <;> assumption
def foldX (g : Nat → ByteArray) (c : Nat → Bool) (l : List Nat) (b : ByteArray) : ByteArray := l.foldl (fun b p => if c p = true then upd b (g p) else b) b
theorem foldX_size (g : Nat → ByteArray) (c : Nat → Bool) (B : Nat) : ∀ (l : List Nat) (b : ByteArray), b.size ≤ B → (∀ p ∈ l, (g p).size ≤ B) → (foldX g c l b).size ≤ B := by
 intro l
 induction l with
 | nil => intro b h _; exact h
 | cons x xs ih =>
  intro b h hg
  refine ih _ ?_ (fun p hp => hg p (List.mem_cons_of_mem _ hp))
  show (if c x = true then upd b (g x) else b).size ≤ B
  split
  ·exact upd_size _ _ _ h (hg x List.mem_cons_self)
  ·exact h
theorem foldX_congr (g g' : Nat → ByteArray) (c c' : Nat → Bool) : ∀ (l : List Nat) (b : ByteArray), (∀ p ∈ l, c p = c' p ∧ (c p = true → g p = g' p)) → foldX g c l b = foldX g' c' l b := by
 intro l
 induction l with
 | nil => intro b _; rfl
 | cons x xs ih =>
  intro b h
  have hx := h x List.mem_cons_self
  have e : (if c x = true then upd b (g x) else b) = (if c' x = true then upd b (g' x) else b) := by
   rw [← hx.1]
   by_cases hc : c x = true
   ·rw [if_pos hc, if_pos hc, hx.2 hc]
   ·rw [if_neg hc, if_neg hc]
  show foldX g c xs (if c x = true then upd b (g x) else b) = foldX g' c' xs (if c' x = true then upd b (g' x) else b)
  rw [e]
  exact ih _ (fun p hp => h p (List.mem_cons_of_mem _ hp))
theorem foldX_filter (g : Nat → ByteArray) (c n : Nat → Bool) : ∀ (l : List Nat) (b : ByteArray), foldX g c (l.filter n) b = foldX g (fun p => n p && c p) l b := by
 intro l
 induction l with
 | nil => intro b; rfl
 | cons x xs ih =>
  intro b
  show _ = foldX g (fun p => n p && c p) xs (if (n x && c x) = true then upd b (g x) else b)
  by_cases hn : n x = true
  ·rw [List.filter_cons_of_pos hn]
   show foldX g c (xs.filter n) (if c x = true then upd b (g x) else b) = _
   rw [ih, hn, Bool.true_and]
  ·rw [List.filter_cons_of_neg hn, ih]
   simp only [Bool.not_eq_true] at hn
   rw [hn]
   rfl
def cand (s : Sys) (n last p : Nat) : Bool := s.nx last p && (decide (s.V p ≤ (n : Int)) && decide (s.L p + valT s ((n : Int) - s.V p).toNat p = valT s n last))
def txt (s : Sys) : Nat → Nat → Nat → ByteArray
 | 0, _, _ => noText
 | f + 1, n, last => if n = 0 then noText else foldX (fun p => s.T p ++ txt s f ((n : Int) - s.V p).toNat p) (cand s n last) (List.range s.m) noText
theorem txt_size (s : Sys) (ho : s.ok) : ∀ (f n last : Nat), (txt s f n last).size ≤ 2 * f := by
 intro f
 induction f with
 | zero => intro n last; exact Nat.le_refl _
 | succ f ih =>
  intro n last
  unfold txt
  split
  ·show 0 ≤ _; omega
  ·refine foldX_size _ _ _ _ _ (show 0 ≤ _ by omega) (fun p hp => ?_)
   have hp := List.mem_range.1 hp
   have h1 := ih ((n : Int) - s.V p).toNat p
   have h2 := ho.l1 p hp
   unfold Sys.L at h2
   show (s.T p ++ txt s f ((n : Int) - s.V p).toNat p).size ≤ _
   rw [ByteArray.size_append]
   omega
theorem rd_tabS (s : Sys) {j N last : Nat} (h : j < N) : rd ((tabS s N).getD j []) (last : Int) = valT s j last := by
 rw [tabS_get s h]
 unfold rd valT
 rw [Int.toNat_natCast]
theorem len_tabS (s : Sys) {j N : Nat} (h : j < N) : ((tabS s N).getD j []).length = s.m + 1 := by rw [tabS_get s h]; unfold rowS; simp
theorem first_l0 (s : Sys) (ho : s.ok) (P : List Pc) (X : List (List Bool)) (hR : Ref s P X) (N n last f : Nat) (hn : n < N) (hN : N ≤ 100000) (hl : last ≤ s.m) (K : Nat) (hf : f ≤ 100000)
  (hrec : ∀ p k', p < s.m → s.V p ≤ (n : Int) → K < k' → spec_l03First.f k' P X (tabS s N) (((n : Int) - s.V p).toNat : Int) p = some (txt s f ((n : Int) - s.V p).toNat p)) :
  ∀ (d i k : Nat) (best : ByteArray), i + d = s.m → K + 3 + 2 * d < k → spec_l03First.l0 k P X (tabS s N) n last best i = some (foldX (fun p => s.T p ++ txt s f ((n : Int) - s.V p).toNat p) (cand s n last) (List.range' i d) best) := by
 have hm1 := ho.m1
 have hlen := hR.len
 have hnl := hR.nlen
 have hxl := hR.nxl last hl
 intro d
 induction d with
 | zero =>
  intro i k best hi hK
  obtain ⟨k, rfl⟩ : ∃ k', k = k' + 1 := ⟨k - 1, by omega⟩
  unfold spec_l03First.l0
  rw [if_neg (by omega)]
  rfl
 | succ d ih =>
  intro i k best hi hK
  obtain ⟨k, rfl⟩ : ∃ k', k = k' + 2 := ⟨k - 2, by omega⟩
  have hlt : i < s.m := by omega
  have hv0 := ho.v0 i hlt
  have hv1 := ho.v1 i hlt
  have hL0 := ho.l0 i hlt
  have hL1 := ho.l1 i hlt
  have hxl' : (X.getD (last : Int).toNat []).length = s.m := hxl
  have hnx : rdOf false (X.getD (last : Int).toNat []) (i : Int) = s.nx last i := hR.nxt last i hl hlt
  have hfold : foldX (fun p => s.T p ++ txt s f ((n : Int) - s.V p).toNat p) (cand s n last) (List.range' i (d + 1)) best = foldX (fun p => s.T p ++ txt s f ((n : Int) - s.V p).toNat p) (cand s n last) (List.range' (i + 1) d) (if cand s n last i = true then upd best (s.T i ++ txt s f ((n : Int) - s.V i).toNat i) else best) := by
   rw [List.range'_succ]; rfl
  rw [hfold]
  unfold spec_l03First.l0
  delta rd_L11 rd_L12 rd_L15 rd_L16 rd_L18 rd_L5 rd_L6
  rw [if_pos (by omega), if_pos (by omega), if_pos (by omega), if_pos (by omega), if_pos (by omega), hnx, hR.val i hlt]
  by_cases hx : s.nx last i = true
  ·rw [if_pos hx]
   unfold spec_l03First.j1
   by_cases hv : s.V i ≤ (n : Int)
   ·have hr := rest_nat hv hv0
    have hw : wrap64 ((n : Int) - s.V i) = (n : Int) - s.V i := by unfold wrap64; omega
    have hL : ((rd_T108 P (i : Int)).f0.size : Int) = s.L i := by rw [hR.txt i hlt]; rfl
    have hrl := len_tabS s (show ((n : Int) - s.V i).toNat < N by omega)
    have hnl2 : ((tabS s N).getD (n : Int).toNat []).length = s.m + 1 := len_tabS s hn
    have hval := valT_bd s ho ((n : Int) - s.V i).toNat i (by omega)
    have e1 : rd ((tabS s N).getD ((n : Int) - s.V i).toNat []) (i : Int) = valT s ((n : Int) - s.V i).toNat i := rd_tabS s (by omega)
    have e2 : rd ((tabS s N).getD (n : Int).toNat []) (last : Int) = valT s n last := rd_tabS s hn
    have hts := tabS_len s N
    rw [if_neg (by simp; omega)]
    delta rd_L11 rd_L12 rd_L15 rd_L16 rd_L18 rd_L5 rd_L6
    rw [if_pos (by omega), if_pos (by omega), hR.val i hlt, hw, if_pos (by omega), if_pos (by omega), if_pos (by omega), if_pos (by omega), if_pos (by omega), if_pos (by omega), if_pos (by omega), hL, e1, e2]
    rw [show wrap64 (s.L i + valT s ((n : Int) - s.V i).toNat i) = s.L i + valT s ((n : Int) - s.V i).toNat i from by unfold wrap64; omega, wsucc i (by omega), hR.txt i hlt]
    by_cases hc : s.L i + valT s ((n : Int) - s.V i).toNat i = valT s n last
    ·have hcand : cand s n last i = true := by unfold cand; rw [hx, decide_eq_true hv, decide_eq_true hc]; rfl
     have hsz := txt_size s ho f ((n : Int) - s.V i).toNat i
     have hTs : (s.T i).size ≤ 2 := by unfold Sys.L at hL1; omega
     rw [if_pos hc, show (n : Int) - s.V i = (((n : Int) - s.V i).toNat : Int) from hr.1, Int.toNat_natCast]
     have := hrec i k hlt hv (by omega)
     rw [this, Option.bind_some, if_pos (by omega), hcand, if_pos rfl]
     unfold upd
     by_cases hb : best.toList = ([] : List UInt8)
     ·rw [if_pos hb, if_pos hb]; exact ih (i + 1) k _ (by omega) (by omega)
     ·rw [if_neg hb, if_neg hb]
      by_cases hb2 : Op.bytesLess (s.T i ++ txt s f ((n : Int) - s.V i).toNat i).toList best.toList = true
      ·rw [if_pos hb2, if_pos hb2]; exact ih (i + 1) k _ (by omega) (by omega)
      ·rw [if_neg hb2, if_neg hb2]; exact ih (i + 1) k _ (by omega) (by omega)
    ·have hcand : cand s n last i = false := by unfold cand; rw [decide_eq_false hc]; simp
     rw [if_neg hc, hcand, if_neg (by simp)]
     exact ih (i + 1) k _ (by omega) (by omega)
   ·have hcand : cand s n last i = false := by unfold cand; rw [decide_eq_false hv]; simp
    rw [if_pos (decide_eq_true (by omega)), hcand, if_neg (by simp), wsucc i (by omega)]
    exact ih (i + 1) k _ (by omega) (by omega)
  ·have hcand : cand s n last i = false := by unfold cand; simp only [Bool.not_eq_true] at hx; rw [hx]; rfl
   rw [if_neg hx]
   unfold spec_l03First.j1
   rw [if_pos rfl, hcand, if_neg (by simp), wsucc i (by omega)]
   exact ih (i + 1) k _ (by omega) (by omega)
theorem first_eq (s : Sys) (ho : s.ok) (P : List Pc) (X : List (List Bool)) (hR : Ref s P X) (N : Nat) (hN : N ≤ 100000) :
  ∀ (f n last k : Nat), n < f → f ≤ 100000 → n < N → last ≤ s.m → (n + 1) * 40 < k → spec_l03First.f k P X (tabS s N) n last = some (txt s f n last) := by
 have hm1 := ho.m1
 intro f
 induction f with
 | zero => intro n last k h; omega
 | succ f ih =>
  intro n last k h hf hn hl hK
  obtain ⟨k, rfl⟩ : ∃ k', k = k' + 1 := ⟨k - 1, by omega⟩
  unfold spec_l03First.f txt
  by_cases h0 : n = 0
  ·subst h0
   rw [if_pos (by omega), if_pos rfl]
   rfl
  ·rw [if_neg (by omega), if_neg h0, List.range_eq_range']
   refine first_l0 s ho P X hR N n last f hn hN hl (n * 40) (by omega) (fun p k' hp hv hk' => ?_) s.m 0 k noText (by omega) (by omega)
   have hr := rest_nat hv (ho.v0 p hp)
   refine ih _ p k' (by omega) (by omega) (by omega) (by omega) (Nat.lt_of_le_of_lt ?_ hk')
   exact Nat.mul_le_mul_right 40 (by omega)
theorem rd_nxL (s : Sys) (last : Nat) (i : Nat) (h : i < (nxL s last).length) : ∃ p : Nat, rd (nxL s last) (i : Int) = (p : Int) ∧ p < s.m ∧ s.nx last p = true := by
 have hm : rd (nxL s last) (i : Int) ∈ nxL s last := by
  unfold rd
  rw [Int.toNat_natCast, List.getD_eq_getElem?_getD, List.getElem?_eq_getElem h]
  exact List.getElem_mem h
 obtain ⟨p, h1, h2, h3⟩ := mem_nxL.1 hm
 exact ⟨p, h3, h1, h2⟩
def nats (s : Sys) (last : Nat) : List Nat := (List.range s.m).filter (s.nx last)
theorem nxL_nats (s : Sys) (last : Nat) : nxL s last = (nats s last).map fun (q : Nat) => (q : Int) := rfl
theorem drop_nats (s : Sys) (last i : Nat) (h : i < (nats s last).length) : (nats s last).drop i = (nats s last).getD i 0 :: (nats s last).drop (i + 1) ∧ rd (nxL s last) (i : Int) = ((nats s last).getD i 0 : Int) ∧ (nats s last).getD i 0 < s.m ∧ s.nx last ((nats s last).getD i 0) = true := by
 have hm : (nats s last).getD i 0 ∈ nats s last := by
  rw [List.getD_eq_getElem?_getD, List.getElem?_eq_getElem h]; exact List.getElem_mem h
 have hm2 := hm
 unfold nats at hm2
 rw [List.mem_filter, List.mem_range] at hm2
 refine ⟨?_, ?_, hm2.1, hm2.2⟩
 ·rw [List.drop_eq_getElem_cons h]
  congr 1
  rw [List.getD_eq_getElem?_getD, List.getElem?_eq_getElem h]; rfl
 ·unfold rd
  rw [nxL_nats, Int.toNat_natCast, List.getD_eq_getElem?_getD, List.getElem?_map, List.getD_eq_getElem?_getD, List.getElem?_eq_getElem h]
  rfl
theorem short_l1 (s : Sys) (ho : s.ok) (P : List Pt) (X : List (List Int)) (hI : Imp s P X) (N n last f : Nat) (hn : n < N) (hN : N ≤ 100000) (hl : last ≤ s.m) (K : Nat) (hf : f ≤ 100000) (hv16 : valT s n last ≤ 16)
  (hrec : ∀ p k', p < s.m → s.V p ≤ (n : Int) → valT s ((n : Int) - s.V p).toNat p ≤ 16 → K < k' → impl_builder_shortest.f k' P X (tabT s N) (((n : Int) - s.V p).toNat : Int) (nxL s p) = some (txt s f ((n : Int) - s.V p).toNat p)) :
  ∀ (d i k : Nat) (best : ByteArray), i + d = (nxL s last).length → K + 2 + d < k → impl_builder_shortest.l1 k (tabT s N) n (valT s n last) best (nxL s last) ((nxL s last).length : Int) i P X = some (foldX (fun p => s.T p ++ txt s f ((n : Int) - s.V p).toNat p) (fun p => decide (tabV s n p = valT s n last)) ((nats s last).drop i) best) := by
 have hm1 := ho.m1
 have hlen := hI.len
 have hnl := hI.nlen
 have hnn : (nxL s last).length = (nats s last).length := by rw [nxL_nats, List.length_map]
 have hnm : (nats s last).length ≤ s.m := by unfold nats; exact Nat.le_trans (List.length_filter_le _ _) (by simp)
 intro d
 induction d with
 | zero =>
  intro i k best hi hK
  obtain ⟨k, rfl⟩ : ∃ k', k = k' + 1 := ⟨k - 1, by omega⟩
  unfold impl_builder_shortest.l1
  rw [if_neg (by omega), List.drop_eq_nil_of_le (by omega)]
  rfl
 | succ d ih =>
  intro i k best hi hK
  obtain ⟨k, rfl⟩ : ∃ k', k = k' + 1 := ⟨k - 1, by omega⟩
  obtain ⟨hdrop, hrd, hpm, hpx⟩ := drop_nats s last i (by omega)
  generalize hp : (nats s last).getD i 0 = p at hdrop hrd hpm hpx
  clear hp
  have hv0 := ho.v0 p hpm
  have hv1 := ho.v1 p hpm
  have hL0 := ho.l0 p hpm
  have hL1 := ho.l1 p hpm
  have hts := tabT_len s N
  have hrow : rd ((tabT s N).getD (n : Int).toNat []) (p : Int) = tabV s n p := rd_tabT s ho hn hpm
  have hrl : ((tabT s N).getD (n : Int).toNat []).length = s.m := by rw [Int.toNat_natCast, tabT_get s hn]; unfold rowT; simp
  have hfold : foldX (fun p => s.T p ++ txt s f ((n : Int) - s.V p).toNat p) (fun p => decide (tabV s n p = valT s n last)) ((nats s last).drop i) best = foldX (fun p => s.T p ++ txt s f ((n : Int) - s.V p).toNat p) (fun p => decide (tabV s n p = valT s n last)) ((nats s last).drop (i + 1)) (if decide (tabV s n p = valT s n last) = true then upd best (s.T p ++ txt s f ((n : Int) - s.V p).toNat p) else best) := by rw [hdrop]; rfl
  rw [hfold]
  unfold impl_builder_shortest.l1
  delta rd_L11 rd_L12 rd_L15 rd_L16 rd_L18 rd_L5 rd_L6
  rw [hrd, if_pos (by omega), if_pos (by omega), if_pos (by omega), if_pos (by omega), if_pos (by omega), if_pos (by omega), if_pos (by omega), hrow, wsucc i (by omega)]
  by_cases hc : tabV s n p = valT s n last
  ·rw [if_pos hc, if_pos (by omega), if_pos (by omega), if_pos (decide_eq_true hc)]
   have hc2 := hc
   unfold tabV at hc2
   by_cases hv : s.V p ≤ (n : Int)
   ·rw [if_pos hv] at hc2
    have hr := rest_nat hv hv0
    have hw : wrap64 ((n : Int) - s.V p) = (((n : Int) - s.V p).toNat : Int) := by unfold wrap64; omega
    have h16 : valT s ((n : Int) - s.V p).toNat p ≤ 16 := by split at hc2 <;> omega
    have hsz := txt_size s ho f ((n : Int) - s.V p).toNat p
    have hTs : (s.T p).size ≤ 2 := by unfold Sys.L at hL1; omega
    have hnx : X.getD (p : Int).toNat [] = nxL s p := hI.nxt p hpm
    rw [hI.val p hpm, hI.txt p hpm, hw, hnx, hrec p k hpm hv h16 (by omega), Option.bind_some, if_pos (by omega)]
    unfold upd
    by_cases hb : best.toList = ([] : List UInt8)
    ·rw [if_pos hb, if_pos hb]; exact ih (i + 1) k _ (by omega) (by omega)
    ·rw [if_neg hb, if_neg hb]
     by_cases hb2 : Op.bytesLess (s.T p ++ txt s f ((n : Int) - s.V p).toNat p).toList best.toList = true
     ·rw [if_pos hb2, if_pos hb2]; exact ih (i + 1) k _ (by omega) (by omega)
     ·rw [if_neg hb2, if_neg hb2]; exact ih (i + 1) k _ (by omega) (by omega)
   ·rw [if_neg hv] at hc2; omega
  ·rw [if_neg hc, if_neg (by simp [hc])]
   exact ih (i + 1) k _ (by omega) (by omega)
theorem short_l0 (s : Sys) (ho : s.ok) (P : List Pt) (X : List (List Int)) (N n last : Nat) (hn : n < N) (hN : N ≤ 100000) (R : ByteArray) (K : Nat) 
  (h0 : ∀ k', K ≤ k' → impl_builder_shortest.l1 k' (tabT s N) n (fT ((tabT s N).getD n []) (nxL s last) 100) noText (nxL s last) ((nxL s last).length : Int) 0 P X = some R) :
  ∀ (d i k : Nat) (a : Int), i + d = (nxL s last).length → K + d < k → fT ((tabT s N).getD n []) ((nxL s last).drop i) a = fT ((tabT s N).getD n []) (nxL s last) 100 → impl_builder_shortest.l0 k (tabT s N) n (nxL s last) a (nxL s last) ((nxL s last).length : Int) i P X = some R := by
 have hm1 := ho.m1
 have hnn : (nxL s last).length = (nats s last).length := by rw [nxL_nats, List.length_map]
 have hnm : (nats s last).length ≤ s.m := by unfold nats; exact Nat.le_trans (List.length_filter_le _ _) (by simp)
 intro d
 induction d with
 | zero =>
  intro i k a hi hK ha
  obtain ⟨k, rfl⟩ : ∃ k', k = k' + 1 := ⟨k - 1, by omega⟩
  rw [List.drop_eq_nil_of_le (by omega)] at ha
  unfold impl_builder_shortest.l0
  rw [if_neg (by omega), show a = fT ((tabT s N).getD n []) (nxL s last) 100 from ha]
  exact h0 k (by omega)
 | succ d ih =>
  intro i k a hi hK ha
  obtain ⟨k, rfl⟩ : ∃ k', k = k' + 1 := ⟨k - 1, by omega⟩
  obtain ⟨p, hrd, hpm, hpx⟩ := rd_nxL s last i (by omega)
  have hts := tabT_len s N
  have hrl : ((tabT s N).getD (n : Int).toNat []).length = s.m := by rw [Int.toNat_natCast, tabT_get s hn]; unfold rowT; simp
  rw [rd_at _ _ (by omega)] at ha
  unfold impl_builder_shortest.l0
  delta rd_L11 rd_L12 rd_L15 rd_L16 rd_L18 rd_L5 rd_L6
  rw [if_pos (by omega), if_pos (by omega), if_pos (by omega), if_pos (by omega), if_pos (by omega), if_pos (by omega), if_pos (by omega), wsucc i (by omega)]
  exact ih (i + 1) k _ (by omega) (by omega) ha
theorem short_eq (s : Sys) (ho : s.ok) (P : List Pt) (X : List (List Int)) (hI : Imp s P X) (N : Nat) (hN : N ≤ 100000) :
  ∀ (f n last k : Nat), n < f → f ≤ 100000 → n < N → last ≤ s.m → valT s n last ≤ 16 → (n + 1) * 60 < k → impl_builder_shortest.f k P X (tabT s N) n (nxL s last) = some (txt s f n last) := by
 have hm1 := ho.m1
 intro f
 induction f with
 | zero => intro n last k h; omega
 | succ f ih =>
  intro n last k h hf hn hl hv hK
  obtain ⟨k, rfl⟩ : ∃ k', k = k' + 1 := ⟨k - 1, by omega⟩
  unfold impl_builder_shortest.f txt
  by_cases h0 : n = 0
  ·subst h0
   rw [if_pos (by omega), if_pos rfl]
   rfl
  ·have hnn : (nxL s last).length = (nats s last).length := by rw [nxL_nats, List.length_map]
   have hnm : (nats s last).length ≤ s.m := by unfold nats; exact Nat.le_trans (List.length_filter_le _ _) (by simp)
   rw [if_neg (by omega), if_neg h0]
   refine short_l0 s ho P X N n last hn hN _ (n * 60 + 40) (fun k' hk' => ?_) (nxL s last).length 0 k 100 (by omega) (by omega) (by rw [List.drop_zero])
   have hmin : fT ((tabT s N).getD n []) (nxL s last) 100 = valT s n last := by
    rw [fold_tabV s ho (by omega) hl _ (fun q hq => rd_tabT s ho hn hq), if_neg (by omega)]
   rw [hmin]
   have := short_l1 s ho P X hI N n last f hn hN hl (n * 60) (by omega) hv (fun p k' hp hv1 hv2 hk' => by
    have hr := rest_nat hv1 (ho.v0 p hp)
    exact ih _ p k' (by omega) (by omega) (by omega) (by omega) hv2 (Nat.lt_of_le_of_lt (Nat.mul_le_mul_right 60 (by omega)) hk')) (nxL s last).length 0 k' noText (by omega) (by omega)
   refine this.trans ?_
   rw [List.drop_zero]
   unfold nats
   rw [foldX_filter]
   refine congrArg some (foldX_congr _ _ _ _ _ _ fun p hp => ⟨?_, fun _ => rfl⟩)
   have hp := List.mem_range.1 hp
   have hL0 := ho.l0 p hp
   have hbd := valT_bd s ho ((n : Int) - s.V p).toNat p (by omega)
   unfold cand
   congr 1
   by_cases hvp : s.V p ≤ (n : Int)
   ·rw [decide_eq_true hvp, Bool.true_and]
    unfold tabV
    rw [if_pos hvp]
    refine decide_eq_decide.2 ?_
    split <;> constructor <;> intro h <;> omega
   ·rw [decide_eq_false hvp, Bool.false_and]
    unfold tabV
    rw [if_neg hvp]
    exact decide_eq_false (by omega)
theorem nxL_all (s : Sys) (ho : s.ok) : nxL s s.m = (List.range s.m).map fun (q : Nat) => (q : Int) := by
 unfold nxL
 rw [List.filter_eq_self.2 (fun p _ => ho.all p)]
theorem foldMin8_fT (row : List Int) (h0 : 0 < row.length) (hb : ∀ k : Nat, k < row.length → rd row (k : Int) ≤ 100) : foldMin8 row = fT row ((List.range row.length).map fun (q : Nat) => (q : Int)) 100 := by
 have key : ∀ n : Nat, 0 < n → n ≤ row.length → foldMin8 (row.take n) = fT row ((List.range n).map fun (q : Nat) => (q : Int)) 100 := by
  intro n
  induction n with
  | zero => intro h; omega
  | succ n ih =>
   intro _ hn
   have hfold : fT row ((List.range (n + 1)).map fun (q : Nat) => (q : Int)) 100 = mn (fT row ((List.range n).map fun (q : Nat) => (q : Int)) 100) (rd row (n : Int)) := by
    rw [List.range_succ, List.map_append]
    unfold fT
    rw [List.foldl_append]
    rfl
   rw [hfold]
   by_cases hz : n = 0
   ·subst hz
    have h1 := hb 0 h0
    obtain ⟨x, xs, rfl⟩ : ∃ x xs, row = x :: xs := by cases row with | nil => simp at h0 | cons x xs => exact ⟨x, xs, rfl⟩
    have e : rd (x :: xs) ((0 : Nat) : Int) = x := rfl
    rw [e] at h1 ⊢
    show x = mn 100 x
    unfold mn
    split <;> omega
   ·rw [foldMin8_snoc row n (by omega) (by omega), ih (by omega) (by omega)]
 have := key row.length h0 (Nat.le_refl _)
 rwa [List.take_length] at this
theorem fewest_eq (s : Sys) (ho : s.ok) (N n : Nat) (hn : n < N) : impl_fewest.f (tabT s N) n = some (if 16 < valT s n s.m then 100 else valT s n s.m) := by
 have hm0 := ho.m0
 have hts := tabT_len s N
 unfold impl_fewest.f
 by_cases h0 : n = 0
 ·subst h0
  rw [if_pos (by omega), valT_zero s (Nat.le_refl _), if_neg (by omega)]
 ·have hrl : ((tabT s N).getD n []).length = s.m := by rw [tabT_get s hn]; unfold rowT; simp
  rw [if_neg (by omega), if_pos (by omega), if_pos (by omega)]
  delta rd_L11 rd_L12 rd_L15 rd_L16 rd_L18 rd_L5 rd_L6
  rw [Int.toNat_natCast]
  unfold slices_Min_int8_int8.f
  rw [if_pos (by omega), Option.bind_some, foldMin8_fT _ (by omega) (fun k hk => by rw [rd_tabT s ho hn (by omega)]; exact (tabV_bd s ho n k (by omega)).2), hrl, ← nxL_all s ho, fold_tabV s ho (by omega) (Nat.le_refl _) _ (fun q hq => rd_tabT s ho hn hq)]
  have := valT_bd s ho n s.m (Nat.le_refl _)
  by_cases h16 : 16 < valT s n s.m
  ·rw [if_pos h16]
   split
   ·rw [if_pos (by omega)]
   ·first | rfl | rw [if_pos (by omega)]
  ·rw [if_neg h16, if_neg (by omega), if_neg (by omega)]
end Go.Proofs.Ytlepbhlbooajmaa.Pure
