/- Contracts and plain laws of functions of the given program; no conditions beside those in the theorems. -/
import Derived.Test.YticjkfacdmmopaaDoorC5CheapestOf
import Derived.Test.YticjkfacdmmopaaDoorC6CheapestOf
import Derived.Test.YticjkfacdmmopaaDoorC7CheapestOf
import Derived.Test.YticjkfacdmmopaaDoorC4CheapestOf
import Derived.Test.YticjkfacdmmopaaDoorC0CheapestOf
import Derived.Test.YticjkfacdmmopaaDoorC3CheapestOf
import Derived.Deep.Slices
namespace Go.Proofs.YticjkfacdmmopaaDoor.Pure
open Go.RowKit Go.Proofs.YticjkfacdmmopaaDoor.Ext Go.Proofs.YticjkfacdmmopaaDoor.Q Go.Proofs.YticjkfacdmmopaaDoor.Txt Go.Proofs.YticjkfacdmmopaaDoor.Face Go.Proofs.YticjkfacdmmopaaDoorW.PrintWords Go.Proofs.YticjkfacdmmopaaDoorW.PrintLast Go.Proofs.YticjkfacdmmopaaDoorW.PrintMore
set_option linter.unusedVariables false
set_option linter.unusedSimpArgs false
set_option maxRecDepth 100000
theorem pB_in {L Q : List Int} {P : List Pr} (F : FaceOk L P) (hq : Q.length = 29) (hp : pricesB Q = true) (ch : UInt8) (h0 : 65 ≤ ch.toNat) (h1 : ch.toNat ≤ 90) : 0 ≤ pB L Q ch ∧ pB L Q ch ≤ 50000 := by
  have hb : ∀ n : Nat, n < 29 → 0 ≤ rd Q (n : Int) ∧ rd Q (n : Int) ≤ 1000 := fun n hn => inB_iff.1 (List.all_eq_true.1 hp _ (rd_mem Q n (by omega)))
  have hw := wB_in F.len F.shape ch h0 h1
  have a1 := hb (ch.toNat - 65) (by omega)
  rw [show ((ch.toNat - 65 : Nat) : Int) = (ch.toNat : Int) - 65 by omega] at a1
  have a2 := hb 26 (by omega)
  rw [show ((26 : Nat) : Int) = 26 from rfl] at a2
  obtain ⟨g, hg⟩ : ∃ g, rd Q 26 = g := ⟨_, rfl⟩
  obtain ⟨x, hx⟩ : ∃ x, wB L ch = x := ⟨_, rfl⟩
  rw [hg] at a2
  rw [hx] at hw
  have hm0 : 0 ≤ g * x := Int.mul_nonneg (by omega) (by omega)
  have hm1 : g * x ≤ 1000 * 40 := Int.mul_le_mul (by omega) (by omega) (by omega) (by omega)
  unfold pB
  rw [hg, hx, w64 (x := rd Q ((ch.toNat : Int) - 65)) (by omega) (by omega), w64 (x := g) (by omega) (by omega), w64 (x := g * x) (by omega) (by omega), w64 (by omega) (by omega)]
  omega
theorem costL_in {L Q : List Int} {P : List Pr} (F : FaceOk L P) (hq : Q.length = 29) (hp : pricesB Q = true) : ∀ (t : List UInt8) (a : Int), (∀ x ∈ t, 65 ≤ x.toNat ∧ x.toNat ≤ 90) → 0 ≤ a → a + 50000 * (t.length : Int) ≤ 10000000 → 0 ≤ costL L Q a t ∧ costL L Q a t ≤ a + 50000 * (t.length : Int)
  | [], a, ht, h0, h1 => by simp only [costL, List.length_nil]; omega
  | ch :: t, a, ht, h0, h1 => by
    rw [List.length_cons] at h1
    have hc := ht ch (by simp)
    have hb := pB_in F hq hp ch hc.1 hc.2
    have := costL_in F hq hp t (wrap64 (a + pB L Q ch)) (fun x hx => ht x (by simp [hx])) (by rw [w64 (by omega) (by omega)]; omega) (by rw [w64 (by omega) (by omega)]; omega)
    rw [w64 (x := a + pB L Q ch) (by omega) (by omega)] at this
    rw [costL, List.length_cons, w64 (x := a + pB L Q ch) (by omega) (by omega)]
    omega
theorem priceT_in {L Q : List Int} {P : List Pr} (F : FaceOk L P) (hq : Q.length = 29) (hp : pricesB Q = true) {s : ByteArray} (hs : txt s.data.toList = true) : 0 ≤ priceT L Q s.data.toList := by
  have hall : ∀ x ∈ lets s.data.toList, 65 ≤ x.toNat ∧ x.toNat ≤ 90 := by
    intro x hx
    unfold lets at hx
    rw [List.mem_filter] at hx
    exact (txt_ok hs x hx.1).resolve_left (by simpa using hx.2)
  have h60 : (lets s.data.toList).length ≤ 60 := by
    have h1 : (lets s.data.toList).length ≤ s.data.toList.length := List.length_filter_le _ _
    have := txt_size hs
    rw [data_length] at h1
    omega
  have a1 : 0 ≤ rd Q (27 : Nat) ∧ rd Q (27 : Nat) ≤ 1000 := inB_iff.1 (List.all_eq_true.1 hp _ (rd_mem Q 27 (by omega)))
  rw [show ((27 : Nat) : Int) = 27 from rfl] at a1
  unfold priceT
  rw [w64 (by omega) (by omega)]
  exact (costL_in F hq hp _ _ hall (by omega) (by omega)).1
theorem icheap_l0 {L : List Int} {P : List Pr} (hl : L.length = 28) (hr : rngB L P = true) (F : FaceOk L P) (Q : List Int) (hq : Q.length = 29) (hf : faceB L P = true) (hp : pricesB Q = true) (l : List ByteArray) (hn : l.length ≤ 1048576) (hA : ∀ s ∈ l, txt s.data.toList = true) : ∀ (d k i : Nat) (best least : Int), i + d = l.length → d < k → 0 ≤ least →
    impl_CheapestOf.l0 k best least l l.length i (rd L 0) (rd L 1) (rd L 2) (rd L 3) (rd L 4) (rd L 5) (rd L 6) (rd L 7) (rd L 8) (rd L 9) (rd L 10) (rd L 11) (rd L 12) (rd L 13) (rd L 14) (rd L 15) (rd L 16) (rd L 17) (rd L 18) (rd L 19) (rd L 20) (rd L 21) (rd L 22) (rd L 23) (rd L 24) (rd L 25) (rd L 26) (rd L 27) P (rd Q 0) (rd Q 1) (rd Q 2) (rd Q 3) (rd Q 4) (rd Q 5) (rd Q 6) (rd Q 7) (rd Q 8) (rd Q 9) (rd Q 10) (rd Q 11) (rd Q 12) (rd Q 13) (rd Q 14) (rd Q 15) (rd Q 16) (rd Q 17) (rd Q 18) (rd Q 19) (rd Q 20) (rd Q 21) (rd Q 22) (rd Q 23) (rd Q 24) (rd Q 25) (rd Q 26) (rd Q 27) (rd Q 28) = some ((cheapL L Q (l.drop i) i best least).1, (cheapL L Q (l.drop i) i best least).2, 0)
  | 0, k, i, best, least, hd, hk, h0 => by
    obtain ⟨k, rfl⟩ := some_k hk
    rw [impl_CheapestOf.l0, if_neg (by omega), List.drop_eq_nil_of_le (by omega)]
    rfl
  | d + 1, k, i, best, least, hd, hk, h0 => by
    obtain ⟨k, rfl⟩ := some_k hk
    have hi : i < l.length := by omega
    have ht := hA _ (List.getElem_mem hi)
    have hpos := priceT_in F hq hp ht
    have hask : askP L P Q l[i] = true := by unfold askP; rw [hf, hp, ht]; rfl
    have ih := fun best least h => icheap_l0 hl hr F Q hq hf hp l hn hA d k (i + 1) best least (by omega) (by omega) h
    rw [impl_CheapestOf.l0, if_pos (by omega), if_pos (by omega), if_pos (by omega), rdOf_get l i hi, iprice_eq hl hr Q hq _ hask, Option.bind_some, wrap_succ i (by omega), if_neg (by omega), ih _ _ h0, ih _ _ hpos, List.drop_eq_getElem_cons hi, cheapL]
    split <;> rfl
theorem impl_CheapestOf_eq {L : List Int} {P : List Pr} (hl : L.length = 28) (hr : rngB L P = true) (Q : List Int) (hq : Q.length = 29) (hw : rngQ Q = true) (l : List ByteArray) (hn : l.length ≤ 1048576) {k : Nat} (hk : 1048577 < k) : impl_CheapestOf.f k (rd L 0) (rd L 1) (rd L 2) (rd L 3) (rd L 4) (rd L 5) (rd L 6) (rd L 7) (rd L 8) (rd L 9) (rd L 10) (rd L 11) (rd L 12) (rd L 13) (rd L 14) (rd L 15) (rd L 16) (rd L 17) (rd L 18) (rd L 19) (rd L 20) (rd L 21) (rd L 22) (rd L 23) (rd L 24) (rd L 25) (rd L 26) (rd L 27) P (rd Q 0) (rd Q 1) (rd Q 2) (rd Q 3) (rd Q 4) (rd Q 5) (rd Q 6) (rd Q 7) (rd Q 8) (rd Q 9) (rd Q 10) (rd Q 11) (rd Q 12) (rd Q 13) (rd Q 14) (rd Q 15) (rd Q 16) (rd Q 17) (rd Q 18) (rd Q 19) (rd Q 20) (rd Q 21) (rd Q 22) (rd Q 23) (rd Q 24) (rd Q 25) (rd Q 26) (rd Q 27) (rd Q 28) l = some (cheapC L P Q l) := by
  unfold impl_CheapestOf.f cheapC
  rw [priceCode_eq hl hr Q hq hw, Option.bind_some]
  cases h : (faceB L P && (pricesB Q && l.all fun s => txt s.data.toList))
  · rfl
  · rw [Bool.and_eq_true, Bool.and_eq_true] at h
    obtain ⟨hf, hp, hA⟩ := h
    have hall := List.all_eq_true.1 hA
    have F := faceOk hl hr hf
    rw [if_pos rfl, if_pos rfl, if_pos rfl]
    by_cases h20 : 20 < l.length
    · rw [if_pos (by omega), if_pos h20]
    rw [if_neg (by omega), if_neg h20]
    cases l with
    | nil => rw [if_pos (by simp)]; rfl
    | cons s t =>
      obtain ⟨k, rfl⟩ := some_k hk
      have ht := hall s (by simp)
      have hpos := priceT_in F hq hp ht
      have hask : askP L P Q s = true := by unfold askP; rw [hf, hp, ht]; rfl
      have h1 := icheap_l0 hl hr F Q hq hf hp (s :: t) (by omega) hall t.length k 1 0 (priceT L Q s.data.toList) (by simp; omega) (by simp at hn; omega) hpos
      have e0 : rdOf ByteArray.empty (s :: t) 0 = s := rfl
      rw [if_neg (by simp only [List.length_cons]; omega), impl_CheapestOf.l0, if_pos (by simp only [List.length_cons]; omega), if_pos (by omega), if_pos (by simp only [List.length_cons]; omega), e0, iprice_eq hl hr Q hq s hask, Option.bind_some, if_pos (by omega), show wrap64 (0 + 1) = ((1 : Nat) : Int) by unfold wrap64; omega]
      exact h1
theorem spec_CheapestOf_eq {L : List Int} {P : List Pr} (hl : L.length = 28) (hr : rngB L P = true) (Q : List Int) (hq : Q.length = 29) (hw : rngQ Q = true) (l : List ByteArray) (hn : l.length ≤ 1048576) (hs : ∀ s ∈ l, s.size ≤ 1048576) : spec_CheapestOf.f (rd L 0) (rd L 1) (rd L 2) (rd L 3) (rd L 4) (rd L 5) (rd L 6) (rd L 7) (rd L 8) (rd L 9) (rd L 10) (rd L 11) (rd L 12) (rd L 13) (rd L 14) (rd L 15) (rd L 16) (rd L 17) (rd L 18) (rd L 19) (rd L 20) (rd L 21) (rd L 22) (rd L 23) (rd L 24) (rd L 25) (rd L 26) (rd L 27) P (rd Q 0) (rd Q 1) (rd Q 2) (rd Q 3) (rd Q 4) (rd Q 5) (rd Q 6) (rd Q 7) (rd Q 8) (rd Q 9) (rd Q 10) (rd Q 11) (rd Q 12) (rd Q 13) (rd Q 14) (rd Q 15) (rd Q 16) (rd Q 17) (rd Q 18) (rd Q 19) (rd Q 20) (rd Q 21) (rd Q 22) (rd Q 23) (rd Q 24) (rd Q 25) (rd Q 26) (rd Q 27) (rd Q 28) l = some (cheapC L P Q l) := by
  unfold spec_CheapestOf.f
  rw [all28 L hl, all29 Q hq, hr, hw, if_pos ⟨rfl, hn, List.all_eq_true.2 fun s h => by simpa using hs s h⟩]
theorem cheapestOf_law (L : List Int) (hl : L.length = 28) (lp : List LP) (hlp : lp.length ≤ 9223372036854775807) (hr : rngB L (lp.map toP) = true) (Q : List Int) (hq : Q.length = 29) (hw : ∀ y ∈ Q, -32768 ≤ y ∧ y ≤ 32767) (l : List ByteArray) (hln : l.length ≤ 9223372036854775807) (hls : ∀ s ∈ l, s.size ≤ 9223372036854775807) : ∃ k, laws_FnExactCheapestOf.f k (rd L 0) (rd L 1) (rd L 2) (rd L 3) (rd L 4) (rd L 5) (rd L 6) (rd L 7) (rd L 8) (rd L 9) (rd L 10) (rd L 11) (rd L 12) (rd L 13) (rd L 14) (rd L 15) (rd L 16) (rd L 17) (rd L 18) (rd L 19) (rd L 20) (rd L 21) (rd L 22) (rd L 23) (rd L 24) (rd L 25) (rd L 26) (rd L 27) lp (rd Q 0) (rd Q 1) (rd Q 2) (rd Q 3) (rd Q 4) (rd Q 5) (rd Q 6) (rd Q 7) (rd Q 8) (rd Q 9) (rd Q 10) (rd Q 11) (rd Q 12) (rd Q 13) (rd Q 14) (rd Q 15) (rd Q 16) (rd Q 17) (rd Q 18) (rd Q 19) (rd Q 20) (rd Q 21) (rd Q 22) (rd Q 23) (rd Q 24) (rd Q 25) (rd Q 26) (rd Q 27) (rd Q 28) l = some true := by
  have hwQ := rngQ_to hw
  obtain ⟨K, hK⟩ : ∃ K, K = 5000000 := ⟨_, rfl⟩
  refine ⟨K + 1, ?_⟩
  unfold laws_FnExactCheapestOf.f
  rw [szFace_eq L lp hlp, Option.bind_some]
  by_cases h2 : 1048576 < lp.length
  · rw [if_pos h2, if_pos (by omega)]
  rw [if_neg h2, if_neg (by omega)]
  obtain ⟨r, hr1, hr2⟩ := szS_eq l hln hls (1048576 - (lp.length : Int)) (by omega) (by omega) (by omega : 1048576 < K + 1)
  rw [hr1, Option.bind_some]
  by_cases h4 : r < 0
  · rw [if_pos h4]
  obtain ⟨hn, hs⟩ := hr2.resolve_left h4
  rw [if_neg h4]
  simp only [toFace_eq L lp (by omega), laws_toPrices.f, Option.bind_some, toS_eq l hn (by omega : 1048576 < K + 1), toS_eq l hn (by omega : 1048576 < K), eqS_self l hn (by omega : 1048576 < K), spec_CheapestOf_eq hl hr Q hq hwQ l hn hs, impl_CheapestOf_eq hl hr Q hq hwQ l hn (by omega : 1048577 < K + 1), if_true, bne_self_eq_false, laws_FnExactCheapestOf.j0, Bool.false_eq_true, if_false, eqFace_self L _ (size_le (by omega : lp.length ≤ 1048576)) (by omega : 1048577 < K)]
theorem cheapestOf_walk (L : List Int) (hl : L.length = 28) (hb : ∀ y ∈ L, -128 ≤ y ∧ y ≤ 127) (A : Option Addr) (c : Nat) (P : List LP) (hc : P.length ≤ c) (hm : c ≤ maxLen) (hp : ∀ p ∈ P, (0 ≤ p.f0 ∧ p.f0 ≤ 255) ∧ (0 ≤ p.f1 ∧ p.f1 ≤ 255) ∧ (-128 ≤ p.f2 ∧ p.f2 ≤ 127)) (Q0 : List Int) (hq0 : Q0.length = 29) (hw0 : ∀ y ∈ Q0, -32768 ≤ y ∧ y ≤ 32767) (A1 : Option Addr) (c1 : Nat) (l1 : List ByteArray) (hc1 : l1.length ≤ c1) (hz1 : ∀ s ∈ l1, s.size ≤ maxLen) (w : World) (hr : Kd.C kLP w A P.length P) (hr1 : Kd.C Kd.string w A1 l1.length l1) (hM : GlobM w) :
    Calls Tryd.prog 15 #[.agg (faceV L A P.length c), .agg (cellsK .i16 Q0), .slice A1 l1.length c1] w fun e w' => e = .returned (.bool true) ∧ Below w.heap.size w w' := by
  obtain ⟨k, hk⟩ := cheapestOf_law L hl P (by unfold maxLen at hm; omega) (rng_of hb hp) Q0 hq0 hw0 l1 hr1.2.1 hz1
  have h := laws_FnExactCheapestOf.calls k (rd L 0) (rd L 1) (rd L 2) (rd L 3) (rd L 4) (rd L 5) (rd L 6) (rd L 7) (rd L 8) (rd L 9) (rd L 10) (rd L 11) (rd L 12) (rd L 13) (rd L 14) (rd L 15) (rd L 16) (rd L 17) (rd L 18) (rd L 19) (rd L 20) (rd L 21) (rd L 22) (rd L 23) (rd L 24) (rd L 25) (rd L 26) (rd L 27) A c P (rd Q0 0) (rd Q0 1) (rd Q0 2) (rd Q0 3) (rd Q0 4) (rd Q0 5) (rd Q0 6) (rd Q0 7) (rd Q0 8) (rd Q0 9) (rd Q0 10) (rd Q0 11) (rd Q0 12) (rd Q0 13) (rd Q0 14) (rd Q0 15) (rd Q0 16) (rd Q0 17) (rd Q0 18) (rd Q0 19) (rd Q0 20) (rd Q0 21) (rd Q0 22) (rd Q0 23) (rd Q0 24) (rd Q0 25) (rd Q0 26) (rd Q0 27) (rd Q0 28) A1 c1 l1 true w hr hc hr1 hc1 hM hk
  rw [faceV_all L hl A P.length c]
  rw [pricesK_all Q0 hq0]
  exact h
end Go.Proofs.YticjkfacdmmopaaDoor.Pure
namespace Go.Proofs.YticjkfacdmmopaaDoor.Open
open Go.ChangeShapes Go.WideShapes Go.ChangeAt Go.RowKit Go.Deep Go.Proofs.YticjkfacdmmopaaDoor.Ext Go.Proofs.YticjkfacdmmopaaDoor.Face Go.Proofs.YticjkfacdmmopaaDoorW.PrintWords
set_option linter.unusedVariables false
set_option linter.unusedSimpArgs false
variable {H : Type} {enc : TypeId × Value → H} {P : Program} {w : World} {spare : Nat → Bool} {held : Bool} {t : TypeId}
instance : Inhabited LP := ⟨⟨0, 0, 0⟩⟩
theorem open_pairs {t e : TypeId} {f0 f1 f2 : Field} {fuel : Nat} {cs : List Value} {x : DataW H × List MemPlace} (ht : P.underlying t = some (.slice e)) (he : P.underlying e = some (.struct #[f0, f1, f2])) (ce : P.cellsOf e = 3) (o0 : f0.offset = 0) (o1 : f1.offset = 1) (o2 : f2.offset = 2) (c0 : P.cellsOf f0.type = 1) (c1 : P.cellsOf f1.type = 1) (c2 : P.cellsOf f2.type = 1)
    (u0 : P.underlying f0.type = some (.int .u8)) (u1 : P.underlying f1.type = some (.int .u8)) (u2 : P.underlying f2.type = some (.int .i8))
    (h : DataW.trod enc P w 0 spare held fuel t cs = some x) :
    ∃ (A : Option Addr) (c : Nat) (ps : List LP), cs = [.slice A ps.length c] ∧ ps.length ≤ c ∧ c ≤ maxLen ∧ Kd.C kLP w A ps.length ps ∧ ∀ p ∈ ps, (0 ≤ p.f0 ∧ p.f0 ≤ 255) ∧ (0 ≤ p.f1 ∧ p.f1 ≤ 255) ∧ (-128 ≤ p.f2 ∧ p.f2 ≤ 127) := by
  rcases open_slice ht h with ⟨rfl, _⟩ | ⟨a, len, cap, m, n, D, Pl, rfl, hb, hl, hm, hmm, rfl, hx⟩
  · exact ⟨none, 0, [], rfl, Nat.le_refl _, Nat.zero_le _, ⟨rfl, by simp, fun hp => absurd hp (by simp)⟩, by simp⟩
  have hlm : len ≤ m := by rw [hmm]; split <;> omega
  have each : ∀ i, i < len → ∃ q : LP, (w.cell? (a.add (i * 3)) = some (.int .u8 q.f0) ∧ w.cell? (a.add (i * 3 + 1)) = some (.int .u8 q.f1) ∧ w.cell? (a.add (i * 3 + 2)) = some (.int .i8 q.f2)) ∧ (0 ≤ q.f0 ∧ q.f0 ≤ 255) ∧ (0 ≤ q.f1 ∧ q.f1 ≤ 255) ∧ (-128 ≤ q.f2 ∧ q.f2 ≤ 127) := by
    intro i hi
    obtain ⟨cs', h1, h2⟩ := hx i (by omega)
    rw [ce] at h1
    obtain ⟨_, hlen, hcell⟩ := World.cells?_some h1
    obtain ⟨xs, k, hk, hxy, _, hxl, hf⟩ := DataW.trod_struct he h2
    match xs, hxl, cs', hlen with
    | [y0, y1, y2], _, [v0, v1, v2], _ =>
      have g0 := hf 0 f0 rfl
      have g1 := hf 1 f1 rfl
      have g2 := hf 2 f2 rfl
      simp [o0, o1, o2, c0, c1, c2] at g0 g1 g2
      obtain ⟨z0, q0, _, w0⟩ := DataW.trod_int u0 g0
      obtain ⟨z1, q1, _, w1⟩ := DataW.trod_int u1 g1
      obtain ⟨z2, q2, _, w2⟩ := DataW.trod_int u2 g2
      obtain rfl : v0 = .int .u8 z0 := by simpa using q0
      obtain rfl : v1 = .int .u8 z1 := by simpa using q1
      obtain rfl : v2 = .int .i8 z2 := by simpa using q2
      have e0 := hcell 0 (by omega)
      have e1 := hcell 1 (by omega)
      have e2 := hcell 2 (by omega)
      rw [Deep.add_add] at e0 e1 e2
      exact ⟨⟨z0, z1, z2⟩, ⟨by simpa using e0, by simpa using e1, by simpa using e2⟩, wf_u8 w0, wf_u8 w1, wf_i8 w2⟩
  obtain ⟨q, hq⟩ := choose_lt each
  refine ⟨some a, cap, (List.range len).map q, by simp, by simpa using hl, hm, ⟨by simp, by simp; unfold maxLen at hm; omega, fun hp => ⟨a, rfl, fun j p hj => ?_⟩⟩, ?_⟩
  · obtain ⟨hlt, rfl⟩ := List.getElem?_eq_some_iff.1 hj
    have hjl : j < len := by simpa using hlt
    obtain ⟨⟨h0, h1, h2⟩, _⟩ := hq j hjl
    refine ⟨[.int .u8 (q j).f0, .int .u8 (q j).f1, .int .i8 (q j).f2], rfl, by simpa using kLP_mk w (q j), fun i u hi => ?_⟩
    match i, hi with
    | 0, hi => simp at hi; subst hi; exact h0
    | 1, hi => simp at hi; subst hi; exact h1
    | 2, hi => simp at hi; subst hi; exact h2
  · intro p hp
    rw [List.mem_map] at hp
    obtain ⟨j, hj, rfl⟩ := hp
    exact (hq j (by simpa using hj)).2
theorem open_face {r : Reach} {b0 : Nat} {f0 f1 f2 f3 : Field} {g0 g1 g2 : Field} {e ep : TypeId} {v : Value} {d : DataW H} {p : List MemPlace} (ht : P.underlying t = some (.struct #[f0, f1, f2, f3])) (h0 : P.underlying f0.type = some (.array 26 e)) (he : P.underlying e = some (.int .i8))
    (hc : P.cellsOf e = 1) (hn : P.cellsOf f0.type = 26) (h1 : P.underlying f1.type = some (.int .i8)) (h2 : P.underlying f2.type = some (.int .i8)) (h3 : P.underlying f3.type = some (.slice ep)) (o0 : f0.offset = 0) (o1 : f1.offset = 26) (o2 : f2.offset = 27) (o3 : f3.offset = 28)
    (c1 : P.cellsOf f1.type = 1) (c2 : P.cellsOf f2.type = 1) (c3 : P.cellsOf f3.type = 1) (hC : P.cellsOf t = 29)
    (hep : P.underlying ep = some (.struct #[g0, g1, g2])) (ce : P.cellsOf ep = 3) (p0 : g0.offset = 0) (p1 : g1.offset = 1) (p2 : g2.offset = 2) (d0 : P.cellsOf g0.type = 1) (d1 : P.cellsOf g1.type = 1) (d2 : P.cellsOf g2.type = 1)
    (u0 : P.underlying g0.type = some (.int .u8)) (u1 : P.underlying g1.type = some (.int .u8)) (u2 : P.underlying g2.type = some (.int .i8))
    (hv : Value.okWide P w r b0 t v) (h : DataW.Trod enc P w 0 spare held t v d p) :
    ∃ (l : List Int) (A : Option Addr) (c : Nat) (ps : List LP), v = .agg (faceV l A ps.length c) ∧ l.length = 28 ∧ (∀ y ∈ l, -128 ≤ y ∧ y ≤ 127) ∧ ps.length ≤ c ∧ c ≤ maxLen ∧ Kd.C kLP w A ps.length ps ∧ ∀ p ∈ ps, (0 ≤ p.f0 ∧ p.f0 ≤ 255) ∧ (0 ≤ p.f1 ∧ p.f1 ≤ 255) ∧ (-128 ≤ p.f2 ∧ p.f2 ≤ 127) := by
  obtain ⟨cs, rfl, _⟩ := okWide_struct ht hv
  obtain ⟨fuel, hf⟩ := h
  obtain ⟨xs, m, _, _, hl, hxs, hi⟩ := DataW.trod_struct ht hf
  have hlen : xs.length = 4 := by simpa using hxs
  rw [hC] at hl
  have get : ∀ i, i < 4 → ∃ z, xs[i]? = some z := fun i hi' => ⟨xs[i]'(by omega), List.getElem?_eq_getElem (by omega)⟩
  have e0 := hi 0 f0 rfl
  have e1 := hi 1 f1 rfl
  have e2 := hi 2 f2 rfl
  have e3 := hi 3 f3 rfl
  obtain ⟨z0, hz0⟩ := get 0 (by omega)
  obtain ⟨z1, hz1⟩ := get 1 (by omega)
  obtain ⟨z2, hz2⟩ := get 2 (by omega)
  obtain ⟨z3, hz3⟩ := get 3 (by omega)
  rw [hz0, o0, hn, List.drop_zero] at e0
  rw [hz1, o1, c1] at e1
  rw [hz2, o2, c2] at e2
  rw [hz3, o3, c3] at e3
  obtain ⟨l, q1, q2, q3⟩ := arr_list h0 he hc hn e0
  obtain ⟨a, a1, _, a3⟩ := DataW.trod_int h1 e1
  obtain ⟨b, b1, _, b3⟩ := DataW.trod_int h2 e2
  obtain ⟨A, c, ps, s1, s2, s3, s4, s5⟩ := open_pairs h3 hep ce p0 p1 p2 d0 d1 d2 u0 u1 u2 e3
  refine ⟨l ++ [a, b], A, c, ps, ?_, by simp [q2], ?_, s2, s3, s4, s5⟩
  · have e : nums .i8 (l ++ [a, b]) ++ [.slice A ps.length c] = (Value.agg cs).cells.toList := by
      rw [nums_append, ← q1]
      have : nums .i8 [a, b] = [.int .i8 a] ++ [.int .i8 b] := rfl
      rw [this, ← a1, ← b1, ← s1]
      generalize (Value.agg cs).cells.toList = L at *
      apply List.ext_getElem?
      intro i
      simp only [List.getElem?_append, List.length_append, List.length_take, List.length_drop, List.getElem?_take, List.getElem?_drop]
      by_cases h1 : i < 26
      · rw [if_pos (by omega), if_pos (by omega), if_pos h1]
      · by_cases h2 : i = 26
        · subst h2
          rw [if_pos (by omega), if_neg (by omega), if_pos (by omega), if_pos (by omega)]
          congr 1; omega
        · by_cases h3 : i = 27
          · subst h3
            rw [if_pos (by omega), if_neg (by omega), if_neg (by omega), if_pos (by omega)]
            congr 1; omega
          · rw [if_neg (by omega)]
            by_cases h4 : i = 28
            · subst h4
              rw [if_pos (by omega)]
              congr 1; omega
            · rw [if_neg (by omega), List.getElem?_eq_none (by omega)]
    unfold faceV
    congr 1
    apply Array.toList_inj.1
    rw [Array.toList_push]
    show cs.toList = nums .i8 (l ++ [a, b]) ++ _
    rw [e]
    simp [Value.cells]
  · intro y hy
    rw [List.mem_append] at hy
    rcases hy with hy | hy
    · exact wf_i8 (q3 y hy)
    · simp at hy
      rcases hy with rfl | rfl
      · exact wf_i8 a3
      · exact wf_i8 b3
end Go.Proofs.YticjkfacdmmopaaDoor.Open
