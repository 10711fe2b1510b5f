/- Functions on texts that the library has: Trim, Contains, ReplaceAll, at the arguments that the program gives. -/
import Derived.Test.YthdoeefaibeodaaDoorGlob
import Derived.Test.YthdoeefaibeodaaDoorShelf
import Derived.Lib.Split
import Derived.Lib.Replace
import Derived.Lib.SplitLaws
namespace Go.Proofs.YthdoeefaibeodaaDoor.Ext
open Go.RowKit Go.Proofs.YthdoeefaibeodaaDoorW.PrintWords Go.Proofs.YthdoeefaibeodaaDoorW.PrintLast Go.Proofs.YthdoeefaibeodaaDoorW.PrintMore
set_option linter.unusedVariables false
set_option linter.unusedSimpArgs false
theorem ba_ext {a b : ByteArray} (h : a.data.toList = b.data.toList) : a = b := by
  apply ByteArray.ext
  exact Array.toList_inj.1 h
/-- strings.Trim(s, " "). -/
def strings_Trim.f (s c : ByteArray) : Option ByteArray := if c.data.toList = [32] ∧ s.size ≤ 9223372036854775807 then some ⟨(Lib.trimB s.data.toList 32).toArray⟩ else none
theorem strings_Trim.calls (a0 a1 : ByteArray) (r : ByteArray) (w : World) (h : strings_Trim.f a0 a1 = some r) :
    Calls Tryd.prog 106 #[.string a0, .string a1] w fun e w' => e = .returned (.string r) ∧ Below w.heap.size w w' := by
  unfold strings_Trim.f at h
  split at h
  · rename_i hc
    obtain ⟨h1, h2⟩ := hc
    obtain rfl := Option.some.inj h
    obtain rfl : a1 = ⟨#[32]⟩ := ba_ext h1
    exact (Tryd.strings_Trim_one a0 32 (by decide) w h2).mono fun e w' ⟨h3, h4⟩ => ⟨h3, by
      rcases h4 with rfl | rfl
      · exact Below.refl _ _
      · exact (Below.refl _ _).drew⟩
  · cases h
/-- strings.Contains. -/
def strings_Contains.f (s c : ByteArray) : Option Bool := if s.size < 4294967281 then some (Lib.contains s.data.toList c.data.toList) else none
theorem strings_Contains.calls (a0 a1 : ByteArray) (r : Bool) (w : World) (hG : GlobM w) (h : strings_Contains.f a0 a1 = some r) :
    Calls Tryd.prog 122 #[.string a0, .string a1] w fun e w' => e = .returned (.bool r) ∧ Below w.heap.size w w' := by
  unfold strings_Contains.f at h
  split at h
  · rename_i hc
    obtain rfl := Option.some.inj h
    obtain ⟨m, hm⟩ := hG.m
    exact (Tryd.strings_Contains a0 a1 m w hc hm).mono fun e w' ⟨h3, h4⟩ => ⟨h3, by subst h4; exact Below.refl _ _⟩
  · cases h
theorem index_cons_self (c : UInt8) (l : List UInt8) : Lib.index (c :: l) [c] = (0 : Nat) := by rw [Lib.index_one]; simp [Lib.indexByte]
theorem index_cons_miss {x c : UInt8} (hx : x ≠ c) {l : List UInt8} (h : Lib.index l [c] = -1) : Lib.index (x :: l) [c] = -1 := by
  rw [Lib.index_one] at h ⊢
  simp [Lib.indexByte, hx, h]
theorem index_cons_hit {x c : UInt8} (hx : x ≠ c) {l : List UInt8} {i : Nat} (h : Lib.index l [c] = i) : Lib.index (x :: l) [c] = (i + 1 : Nat) := by
  rw [Lib.index_one] at h ⊢
  have h0 : ¬ ((i : Int) == -1) = true := by rw [beq_iff_eq]; omega
  have hb : ¬ (x == c) = true := by simpa using hx
  rw [Lib.indexByte, if_neg hb, h, if_neg h0]
  omega
theorem index_two (c : UInt8) (l : List UInt8) : Lib.index l [c] = -1 ∨ ∃ i : Nat, Lib.index l [c] = i := by
  have := Lib.index_ge l [c]
  by_cases h : Lib.index l [c] = -1
  · exact .inl h
  · exact .inr ⟨(Lib.index l [c]).toNat, by omega⟩
theorem count_one (c : UInt8) : ∀ (l : List UInt8) (k : Nat), l.length < k → Lib.countFrom [c] k l = l.count c
  | _, 0, h => absurd h (Nat.not_lt_zero _)
  | [], k + 1, h => by simp [Lib.countFrom, show Lib.index [] [c] = -1 from rfl]
  | x :: l, k + 1, h => by
    by_cases hx : x = c
    · subst hx
      have hb : ¬ (((0 : Nat) : Int) == -1) = true := by decide
      rw [Lib.countFrom, index_cons_self, if_neg hb]
      simp only [Int.toNat_natCast, List.length_singleton, Nat.zero_add, List.drop_one, List.tail_cons]
      rw [count_one x l k (by simp at h; omega)]
      simp; omega
    · have ih := count_one c l (k + 1) (by simp at h; omega)
      rw [List.count_cons_of_ne (by simpa using hx), ← ih]
      rcases index_two c l with hm | ⟨i, hi⟩
      · simp only [Lib.countFrom, index_cons_miss hx hm, hm, BEq.rfl, if_true]
      · have hb : ¬ ((i : Int) == -1) = true := by rw [beq_iff_eq]; omega
        have hb' : ¬ (((i + 1 : Nat) : Int) == -1) = true := by rw [beq_iff_eq]; omega
        simp only [Lib.countFrom, index_cons_hit hx hi, hi, if_neg hb, if_neg hb', Int.toNat_natCast, List.length_singleton, List.drop_succ_cons]
theorem replaceK_one (c : UInt8) : ∀ (l : List UInt8) (k : Nat), l.count c ≤ k → Lib.replaceK [c] [] k l = l.filter (fun b => b != c)
  | [], k, _ => by
    cases k
    · rfl
    · simp [Lib.replaceK, show Lib.index [] [c] = -1 from rfl]
  | x :: l, k, h => by
    by_cases hx : x = c
    · subst hx
      cases k with
      | zero => simp at h
      | succ k =>
        rw [Lib.replaceK_hit _ _ _ _ 0 (index_cons_self x l)]
        simp only [List.take_zero, List.nil_append, Nat.zero_add, List.length_singleton, List.drop_one, List.tail_cons]
        rw [replaceK_one x l k (by simp at h; omega)]
        simp
    · have ih := replaceK_one c l k (by rw [List.count_cons_of_ne (by simpa using hx)] at h; exact h)
      have e : (x :: l).filter (fun b => b != c) = x :: l.filter (fun b => b != c) := by simp [hx]
      rw [e, ← ih]
      cases k with
      | zero => rfl
      | succ k =>
        rcases index_two c l with hm | ⟨i, hi⟩
        · simp only [Lib.replaceK, index_cons_miss hx hm, hm, BEq.rfl, if_true]
        · rw [Lib.replaceK_hit _ _ _ _ _ (index_cons_hit hx hi), Lib.replaceK_hit _ _ _ _ _ hi]
          simp
/-- A text cut at each such byte. -/
def spl (c : UInt8) : List UInt8 → List (List UInt8)
  | [] => [[]]
  | x :: l => if x = c then [] :: spl c l else match spl c l with
    | [] => [[x]]
    | y :: ys => (x :: y) :: ys
theorem splitK_one (c : UInt8) : ∀ (l : List UInt8) (k : Nat), l.count c ≤ k → Lib.splitK [c] 0 k l = spl c l
  | [], k, _ => by
    cases k
    · rfl
    · simp [Lib.splitK, spl, show Lib.index [] [c] = -1 from rfl]
  | x :: l, k, h => by
    by_cases hx : x = c
    · subst hx
      cases k with
      | zero => simp at h
      | succ k =>
        have hb : ¬ (((0 : Nat) : Int) == -1) = true := by decide
        have ih := splitK_one x l k (by simp at h; omega)
        rw [Lib.splitK, index_cons_self, if_neg hb, spl, if_pos rfl, ← ih]
        simp
    · have ih := splitK_one c l k (by rw [List.count_cons_of_ne (by simpa using hx)] at h; exact h)
      rw [spl, if_neg hx, ← ih]
      cases k with
      | zero => rfl
      | succ k =>
        rcases index_two c l with hm | ⟨i, hi⟩
        · simp only [Lib.splitK, index_cons_miss hx hm, hm, BEq.rfl, if_true]
        · have hb : ¬ ((i : Int) == -1) = true := by rw [beq_iff_eq]; omega
          have hb' : ¬ (((i + 1 : Nat) : Int) == -1) = true := by rw [beq_iff_eq]; omega
          simp only [Lib.splitK, index_cons_hit hx hi, hi, if_neg hb, if_neg hb', Int.toNat_natCast, List.length_singleton, List.drop_succ_cons, Nat.add_zero, List.take_succ_cons]
theorem replaceAll_one (s : List UInt8) (c : UInt8) : Lib.replaceAll s [c] [] = s.filter (fun b => b != c) := by
  unfold Lib.replaceAll Lib.replace Lib.replaceNum
  rw [if_neg (by simp), if_pos (by omega)]
  exact replaceK_one c s _ (by unfold Lib.count; rw [count_one c s _ (by omega)]; exact Nat.le_refl _)
/-- strings.ReplaceAll(s, " ", ""). -/
def strings_ReplaceAll.f (s old new : ByteArray) : Option ByteArray := if (old.data.toList = [32] ∧ new.data.toList = []) ∧ s.size < 4294967281 then some ⟨(s.data.toList.filter (fun b => b != 32)).toArray⟩ else none
theorem strings_ReplaceAll.calls (a0 a1 a2 : ByteArray) (r : ByteArray) (w : World) (hG : GlobM w) (h : strings_ReplaceAll.f a0 a1 a2 = some r) :
    Calls Tryd.prog 107 #[.string a0, .string a1, .string a2] w fun e w' => e = .returned (.string r) ∧ Below w.heap.size w w' := by
  unfold strings_ReplaceAll.f at h
  split at h
  · rename_i hc
    obtain ⟨⟨h1, h2⟩, h3⟩ := hc
    obtain rfl := Option.some.inj h
    obtain rfl : a1 = ⟨#[32]⟩ := ba_ext h1
    obtain rfl : a2 = ⟨#[]⟩ := ba_ext h2
    obtain ⟨m, hm⟩ := hG.m
    refine (Tryd.strings_ReplaceAll a0 ⟨#[32]⟩ ⟨#[]⟩ m w h3 hm (by decide) (by rw [show (⟨#[]⟩ : ByteArray).size = 0 from rfl, Nat.mul_zero]; omega)).mono fun e w' ⟨h4, h5⟩ => ⟨?_, h5⟩
    rw [h4, ← replaceAll_one]
  · cases h
theorem splitB_one (s : ByteArray) : Lib.splitB ⟨#[32]⟩ 0 (Lib.countB s ⟨#[32]⟩) s = (spl 32 s.data.toList).map fun l => (⟨l.toArray⟩ : ByteArray) := by
  have h := Lib.splitB_data ⟨#[32]⟩ 0 (Lib.countB s ⟨#[32]⟩) s
  rw [show (⟨#[32]⟩ : ByteArray).data.toList = [32] from rfl, splitK_one 32 _ _ (by show _ ≤ Lib.count _ _; unfold Lib.count; rw [count_one 32 _ _ (by omega)]; exact Nat.le_refl _)] at h
  rw [← h, List.map_map]
  symm
  have hall : ∀ L : List ByteArray, L.map ((fun l => (⟨l.toArray⟩ : ByteArray)) ∘ fun x => x.data.toList) = L := by
    intro L
    induction L with
    | nil => rfl
    | cons x t ih =>
      rw [List.map_cons, ih]
      exact congrArg (· :: t) (ba_ext rfl)
  exact hall _
/-- strings.Split(s, " "). -/
def strings_Split.f (s sep : ByteArray) : Option (List ByteArray) := if sep.data.toList = [32] ∧ s.size < 4294967281 then some ((spl 32 s.data.toList).map fun l => (⟨l.toArray⟩ : ByteArray)) else none
theorem strings_Split.calls (a0 a1 : ByteArray) (r : List ByteArray) (w : World) (hG : GlobM w) (h : strings_Split.f a0 a1 = some r) :
    Calls Tryd.prog 102 #[.string a0, .string a1] w fun e w' => ∃ v0_ : Value, e = .returned (v0_) ∧ Kd.R Kd.string 9 w' w.heap.size (fun _ => True) v0_ r ∧ Below w.heap.size w w' := by
  unfold strings_Split.f at h
  split at h
  · rename_i hc
    obtain ⟨h1, h2⟩ := hc
    obtain rfl := Option.some.inj h
    obtain rfl : a1 = ⟨#[32]⟩ := ba_ext h1
    obtain ⟨m, hm⟩ := hG.m
    refine (Tryd.strings_Split a0 ⟨#[32]⟩ m w h2 hm (by decide)).mono fun e w' ⟨h3, h4⟩ => ⟨_, h3, ?_, ?_⟩
    · have hl := congrArg List.length (splitB_one a0)
      rw [splitB_one] at h4
      have hlen := Lib.splitB_all ⟨#[32]⟩ (by decide) 0 _ a0 rfl
      rw [hlen] at hl
      have hcount := Lib.countB_le ⟨#[32]⟩ (by decide) _ a0 (Nat.le_refl _)
      rw [h4, hl]
      refine Kd.R_of_own ⟨?_, .inr ⟨w.heap.size, _, _, rfl, Nat.le_refl _, blk_new w _, Nat.le_refl _, ?_, ?_, ?_⟩⟩ (fun _ _ => trivial)
      · simp [encs]
      · unfold maxLen; simp only [List.length_map] at hl ⊢; omega
      · simp
      · simp [encs, List.take_of_length_le]
    · rw [h4]; exact below_alloc (Below.refl _ _) _
  · cases h
theorem strRow {w : World} {A : Option Addr} {xs : List ByteArray} (h : Kd.C Kd.string w A xs.length xs) (hp : 0 < xs.length) :
    ∃ bk o, A = some ⟨bk, o, none⟩ ∧ bk < w.heap.size ∧ ∀ (j : Nat) x, xs[j]? = some x → w.cell? ⟨bk, o + j, none⟩ = some (.string x) := by
  have hat : ∀ j : Nat, j < xs.length → ∃ ad, A = some ad ∧ w.cell? (ad.add j) = some (.string (xs.getD j ByteArray.empty)) := by
    intro j hj
    obtain ⟨ad, h1, h2⟩ := Kd.at_string h (j : Int) (by omega) (by omega)
    refine ⟨ad, h1, ?_⟩
    rw [Int.toNat_natCast] at h2
    rw [h2]
    simp [rdOf]
  obtain ⟨ad, rfl, h0⟩ := hat 0 hp
  obtain ⟨bk, o, sp⟩ := ad
  have hsp : sp = none := by
    cases sp with
    | none => rfl
    | some q =>
      exfalso
      unfold World.cell? Addr.add at h0
      simp only [if_true] at h0
      split at h0
      · simp at h0
      · cases h0
  subst hsp
  refine ⟨bk, o, rfl, World.block_lt_of_cell? w _ h0, fun j x hx => ?_⟩
  obtain ⟨hj, he⟩ := List.getElem?_eq_some_iff.1 hx
  obtain ⟨ad, h1, h2⟩ := hat j hj
  injection h1 with h1
  subst h1
  have e : (⟨bk, o, none⟩ : Addr).add j = ⟨bk, o + j, none⟩ := by
    unfold Addr.add
    split
    · rename_i hj0; subst hj0; rfl
    · rfl
  rw [e] at h2
  rw [h2]
  simp [List.getD_eq_getElem?_getD, hx]
/-- strings.Join. -/
def strings_Join.f (l : List ByteArray) (sep : ByteArray) : Option ByteArray := if (Lib.join (l.map (·.data.toList)) sep.data.toList).length ≤ 140737488355328 ∧ l.length ≤ 140737488355328 then some ⟨(Lib.join (l.map (·.data.toList)) sep.data.toList).toArray⟩ else none
theorem strings_Join.calls (A0 : Option Addr) (c0 : Nat) (l0 : List ByteArray) (a1 : ByteArray) (r : ByteArray) (w : World) (hr0 : Kd.C Kd.string w A0 l0.length l0) (hc0 : l0.length ≤ c0) (h : strings_Join.f l0 a1 = some r) :
    Calls Tryd.prog 97 #[.slice A0 l0.length c0, .string a1] w fun e w' => e = .returned (.string r) ∧ Below w.heap.size w w' := by
  unfold strings_Join.f at h
  split at h
  · rename_i hc
    obtain rfl := Option.some.inj h
    cases l0 with
    | nil =>
      exact (Tryd.strings_Join_none A0 c0 a1 w).mono fun e w' ⟨h3, h4⟩ => ⟨h3, by subst h4; exact Below.refl _ _⟩
    | cons x l =>
      obtain ⟨bk, o, rfl, hb, hcell⟩ := strRow hr0 (by simp)
      exact Tryd.strings_Join bk o c0 (x :: l) a1 w hcell hb hc.2 hc0 hc.1
  · cases h
end Go.Proofs.YthdoeefaibeodaaDoor.Ext
