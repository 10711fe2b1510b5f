/- Contracts and plain laws of functions of the given program; no conditions beside those in the theorems. -/
import Derived.WalkKit
import Derived.BigQuiet
import Derived.Deep.QuietTactic
import Derived.Test.YtfnhjoemmiepiaaDoorProg
import Derived.Test.YtfnhjoemmiepiaaDoorWWords
import Derived.Test.YtfnhjoemmiepiaaDoorWLast
import Derived.Test.YtfnhjoemmiepiaaDoorWMore
import Derived.Shelf.Abstract
import Derived.Laws.CopyRow
import Derived.Deep.MidRow
namespace Go.Proofs.YtfnhjoemmiepiaaDoor.Ext
open Go.RowKit Go.Proofs.YtfnhjoemmiepiaaDoorW.PrintWords Go.Proofs.YtfnhjoemmiepiaaDoorW.PrintLast Go.Proofs.YtfnhjoemmiepiaaDoorW.PrintMore
set_option linter.unusedVariables false
set_option linter.unusedSimpArgs false
theorem hid {p : Prop} (h : p) : Hid p := h
def inB (a b c : Int) : Bool := decide (b ≤ a) && decide (a ≤ c)
theorem inB_iff {a b c : Int} : inB a b c = true ↔ b ≤ a ∧ a ≤ c := by simp [inB]
set_option maxHeartbeats 400000 in
theorem within_calls (a b c : Int) (w : World) :
    Calls Tryd.prog 51 #[.int .i64 a, .int .i64 b, .int .i64 c] w fun e w' => e = .returned (.bool (inB a b c)) ∧ w = w' := by
  unfold inB
  by_cases h : b ≤ a
  · have h1 : decide (b ≤ a) = true := by simpa using h
    go_enter Tryd.func51, Tryd.ntmps51
    go_wp2
    go_ret
    exact ⟨by simp [h], rfl⟩
  · have h1 : decide (b ≤ a) = false := by simpa using h
    go_enter Tryd.func51, Tryd.ntmps51
    go_wp2
    go_ret
    exact ⟨by simp [h], rfl⟩
def idxI (p : Int → Bool) : List Int → Int
  | [] => -1
  | x :: xs => if p x then 0 else if idxI p xs < 0 then -1 else idxI p xs + 1
theorem idxI_lo (p : Int → Bool) (l : List Int) : -1 ≤ idxI p l ∧ idxI p l < l.length := by
  induction l with
  | nil => simp [idxI]
  | cons x xs ih => simp only [idxI, List.length_cons]; split <;> (try split) <;> omega
theorem idxI_any_iff (p : Int → Bool) (l : List Int) : 0 ≤ idxI p l ↔ l.any p = true := by
  induction l with
  | nil => simp [idxI]
  | cons x xs ih =>
    have := idxI_lo p xs
    simp only [idxI, List.any_cons, Bool.or_eq_true, ← ih]
    by_cases hx : p x = true
    · simp [hx]
    · rw [if_neg hx]
      split
      · constructor
        · intro h; omega
        · rintro (h | h)
          · exact absurd h hx
          · omega
      · constructor
        · intro h; right; omega
        · intro h; omega
theorem idxI_any (p : Int → Bool) (l : List Int) : decide (0 ≤ idxI p l) = l.any p := by
  rw [Bool.eq_iff_iff, decide_eq_true_iff]
  exact idxI_any_iff p l
theorem idxI_miss (p : Int → Bool) : ∀ (l : List Int), (∀ j, j < l.length → p (l.getD j 0) = false) → idxI p l = -1
  | [], _ => rfl
  | x :: xs, h => by
    have h0 := h 0 (by simp)
    have ih := idxI_miss p xs (fun j hj => by have := h (j + 1) (by simp; omega); simpa using this)
    simp at h0
    simp [idxI, h0, ih]
theorem idxI_hit (p : Int → Bool) : ∀ (l : List Int) (k : Nat), k < l.length → p (l.getD k 0) = true → (∀ j, j < k → p (l.getD j 0) = false) → idxI p l = k
  | [], k, hk, _, _ => by simp at hk
  | x :: xs, 0, hk, h, _ => by simp at h; simp [idxI, h]
  | x :: xs, k + 1, hk, h, hm => by
    have h0 := hm 0 (by omega)
    simp at h0
    have ih := idxI_hit p xs k (by simp at hk; omega) (by simpa using h) (fun j hj => by have := hm (j + 1) (by omega); simpa using this)
    simp [idxI, h0, ih]
    omega
theorem info_i64 : (Tryd.prog.info? 2).map (fun i => (i.zero, i.size, i.bytes)) = some (some (.int .i64 0), 1, 8) := by kernel_rfl
end Go.Proofs.YtfnhjoemmiepiaaDoor.Ext
namespace Go.Proofs.YtfnhjoemmiepiaaDoor.Pure
open Go.RowKit Go.Proofs.YtfnhjoemmiepiaaDoor.Ext Go.Proofs.YtfnhjoemmiepiaaDoorW.PrintWords Go.Proofs.YtfnhjoemmiepiaaDoorW.PrintLast Go.Proofs.YtfnhjoemmiepiaaDoorW.PrintMore
set_option linter.unusedVariables false
set_option linter.unusedSimpArgs false
theorem w64 {x : Int} (h0 : -9223372036854775808 ≤ x) (h1 : x ≤ 9223372036854775807) : wrap64 x = x := by unfold wrap64; omega
theorem wrap_succ (n : Nat) (h : n ≤ 4611686018427387904) : wrap64 ((n : Int) + 1) = ((n + 1 : Nat) : Int) := by unfold wrap64; omega
theorem drop_cons (l : List Int) (n : Nat) (h : n < l.length) : l.drop n = rd l n :: l.drop (n + 1) := by
  rw [List.drop_eq_getElem_cons h]
  congr 1
  simp [rd, List.getD_eq_getElem?_getD, List.getElem?_eq_getElem h]
theorem rd_get (l : List Int) (n : Nat) (h : n < l.length) : rd l n = l[n] := by
  simp [rd, List.getD_eq_getElem?_getD, List.getElem?_eq_getElem h]
theorem rd_mem (l : List Int) (n : Nat) (h : n < l.length) : rd l n ∈ l := by
  rw [rd_get l n h]; exact List.getElem_mem h
theorem some_k {k d : Nat} (h : d < k) : ∃ m, k = m + 1 := ⟨k - 1, by omega⟩
end Go.Proofs.YtfnhjoemmiepiaaDoor.Pure
namespace Go.Proofs.YtfnhjoemmiepiaaDoor.Ext
open Go.RowKit Go.Proofs.YtfnhjoemmiepiaaDoorW.PrintWords Go.Proofs.YtfnhjoemmiepiaaDoorW.PrintLast Go.Proofs.YtfnhjoemmiepiaaDoorW.PrintMore
theorem range_partx_ {w : World} {g : Nat} {t : TypeId} {fr : Nat × Nat} (pre vs post : List Value) (o : Nat) (ho : pre.length = o) (h : w.heap[g]? = some (.cells (pre ++ (vs ++ post)).toArray t fr)) : w.rangeAt g o vs := by
  intro j v hv
  have hj : j < vs.length := (List.getElem?_eq_some_iff.1 hv).1
  subst ho
  rw [cell_of_row w g (pre.length + j) _ t fr h, List.getElem?_toArray, List.getElem?_append_right (by omega), Nat.add_sub_cancel_left, List.getElem?_append_left hj, hv]
theorem exec_load_partx_ {P : Program} {a : Act} {oi : Oper} {w : World} {t : TypeId} {fr : Nat × Nat} {d : TypeDesc} (ty : TypeId) (x : Operand) (g o : Nat) (pre vs post : List Value) (hpre : pre.length = o) (hg : w.heap[g]? = some (.cells (pre ++ (vs ++ post)).toArray t fr))
    (ho : oi.op = .load ty x) (hx : a.eval x = .pointer (some ⟨g, o, none⟩)) (hu : P.underlying ty = some d) (hd : d.isRow = true) (hi : (P.info? ty).map (·.size) = some vs.length) :
    (execOp a.eval oi).run P w = .ok (.value (.agg vs.toArray)) w := by
  have h := run_loadVar_mid w g o ty vs d (range_partx_ pre vs post o hpre hg) hu hd hi
  unfold execOp
  simp only [ho, hx, Instr.loadAt, Instr.sureAddr, Sem.run_bind, Sem.run_pure, Result.andThen_ok, h]
theorem u8_w_ (n : Int) : IntKind.u8.wrap n = n % 256 := by simp [IntKind.wrap, IntKind.signed, IntKind.bits]
end Go.Proofs.YtfnhjoemmiepiaaDoor.Ext
