/- Contracts and plain laws of functions of the given program; no conditions beside those in the theorems. -/
import Derived.Test.YticjkfacdmmopaaDoorProg
import Derived.Below
import Derived.Deep.Draws
import Derived.Deep.AppendLies
import Derived.Maps.AppendAt
import Derived.OwnWalk
import Derived.Laws.BytesArg
import Derived.Laws.MakeOwn
import Derived.Laws.OwnMore
import Derived.Deep.OwnRows
import Derived.Tactics
import Derived.Lib.ConvBytes
import Derived.Laws.Slices
import Derived.WalkKit
import Derived.KernelRfl
import Derived.RowKit3
import Derived.Deep.LoopGhost
import Derived.Deep.QuietTactic
import Derived.BigQuiet
import Derived.WideLaws
import Derived.Deep.DeepCutAuto
import Derived.Deep.CutBlock
import Derived.Deep.RegionHeld3
import Derived.Laws.Rows
import Derived.Lib.AppendStr
import Derived.ArgAppend
import Derived.Laws.IdiomCopy
import Derived.OrdersHeld
import Derived.Laws.BitsLemmas
import Derived.RowKit
import Derived.Test.YticjkfacdmmopaaDoorC2CheapestOf
import Derived.Test.YticjkfacdmmopaaDoorWWords
import Derived.Test.YticjkfacdmmopaaDoorWLast
import Derived.Test.YticjkfacdmmopaaDoorWTab
import Derived.Test.YticjkfacdmmopaaDoorWFour
import Derived.Test.YticjkfacdmmopaaDoorWQPut
import Derived.Test.YticjkfacdmmopaaDoorWApart
import Derived.Test.YticjkfacdmmopaaDoorWArr
import Derived.Test.YticjkfacdmmopaaDoorWZeros
import Derived.Test.YticjkfacdmmopaaDoorWFoot
import Derived.Test.YticjkfacdmmopaaDoorWKept
import Derived.Test.YticjkfacdmmopaaDoorWShare
import Derived.Test.YticjkfacdmmopaaDoorWN
import Derived.Test.YticjkfacdmmopaaDoorWFootNe
import Derived.Test.YticjkfacdmmopaaDoorWAt
import Derived.Test.YticjkfacdmmopaaDoorWEqStruct
import Derived.Test.YticjkfacdmmopaaDoorWRepsOne
import Derived.Test.YticjkfacdmmopaaDoorWInv
import Derived.Test.YticjkfacdmmopaaDoorWInvWords
import Derived.Test.YticjkfacdmmopaaDoorWGuard
import Derived.Test.YticjkfacdmmopaaDoorWNEv
import Derived.Test.YticjkfacdmmopaaDoorWMore
import Derived.Test.YticjkfacdmmopaaDoorC0CheapestOf
import Derived.Test.YticjkfacdmmopaaDoorShelf
import Derived.Lib.Split
import Derived.Lib.Replace
import Derived.Lib.SplitLaws
import Derived.Lib.IndexMore
import Derived.Lib.TrimByte
import Derived.Deep.MidRow
import Derived.ChangeKeysEq
namespace Go.Proofs.YticjkfacdmmopaaDoor.Ext
end Go.Proofs.YticjkfacdmmopaaDoor.Ext
namespace Go.Proofs.YticjkfacdmmopaaDoor.Q
open Go.Proofs.YticjkfacdmmopaaDoor.Ext
open Go.RowKit Go.Proofs.YticjkfacdmmopaaDoorW.PrintWords Go.Proofs.YticjkfacdmmopaaDoorW.PrintLast Go.Proofs.YticjkfacdmmopaaDoorW.PrintMore
attribute [local go_sem] max2_int min2_int max_two min_two max_three min_three max_four min_four
set_option linter.unusedVariables false
set_option linter.unusedSimpArgs false
def errW : Option Int → Value
  | none => .nilIface
  | some c => .iface 0 (.int .i64 c)
theorem errW_none : errW none = .nilIface := rfl
theorem errW_some (c : Int) : errW (some c) = .iface 0 (.int .i64 c) := rfl
theorem info5 : (Tryd.prog.info? 5).map (fun i => (i.zero, i.size, i.bytes)) = some (some (.int .u8 0), 1, 1) := by kernel_rfl
theorem info9 : (Tryd.prog.info? 9).map (fun i => (i.zero, i.size, i.bytes)) = some (some (.string ⟨#[]⟩), 1, 16) := by kernel_rfl
theorem info137 : (Tryd.prog.info? 137).map (fun i => (i.zero, i.size, i.bytes)) = some (some (.agg #[(.int .u8 0), (.int .u8 0), (.int .i8 0)]), 3, 3) := by kernel_rfl
structure S139 where
  f0 : Int
  f1 : Int
  f2 : Int
def z139 : S139 := ⟨(0 : Int), (0 : Int), (0 : Int)⟩
def k139 : Kd S139 := Kd.iso (Kd.pair (Kd.int .u8) (Kd.pair (Kd.int .u8) (Kd.int .i8))) (fun x : S139 => (x.f0, x.f1, x.f2))
theorem k139_open {w : World} {x : S139} {cs : List Value} (h : k139.K w x cs) : cs = [.int .u8 x.f0, .int .u8 x.f1, .int .i8 x.f2] := by
  obtain ⟨_, _, rfl, rfl, ⟨_, _, rfl, rfl, rfl⟩⟩ := h
  exact rfl
def rd_T139 (xs : List S139) (i : Int) : S139 := xs.getD i.toNat z139
theorem at_T139 {w : World} {A : Option Addr} {n : Nat} {xs : List S139} (h : Kd.C k139 w A n xs) (i : Int) (h0 : 0 ≤ i) (h1 : i < n) : ∃ ad , A = some ad ∧ w.cell? (ad.add (i.toNat * 3)) = some (.int .u8 (rd_T139 xs i).f0) ∧ w.cell? ⟨(ad.add (i.toNat * 3)).block, (ad.add (i.toNat * 3)).off + 1, none⟩ = some (.int .u8 (rd_T139 xs i).f1) ∧ w.cell? ⟨(ad.add (i.toNat * 3)).block, (ad.add (i.toNat * 3)).off + 2, none⟩ = some (.int .i8 (rd_T139 xs i).f2) := by
  obtain ⟨ad, c, e, _, hK, hc0⟩ := Kd.C_get h z139 i h0 h1
  have hc : ∀ j u, c[j]? = some u → w.cell? (ad.add (i.toNat * 3 + j)) = some u := hc0
  obtain rfl := k139_open hK
  exact ⟨ad, e, hc 0 _ rfl, by rw [← add_field _ _ 1 (by omega)]; exact hc 1 _ rfl, by rw [← add_field _ _ 2 (by omega)]; exact hc 2 _ rfl⟩
structure S137 where
  f0 : Int
  f1 : Int
  f2 : Int
def z137 : S137 := ⟨(0 : Int), (0 : Int), (0 : Int)⟩
def k137 : Kd S137 := Kd.iso (Kd.pair (Kd.int .u8) (Kd.pair (Kd.int .u8) (Kd.int .i8))) (fun x : S137 => (x.f0, x.f1, x.f2))
theorem k137_open {w : World} {x : S137} {cs : List Value} (h : k137.K w x cs) : cs = [.int .u8 x.f0, .int .u8 x.f1, .int .i8 x.f2] := by
  obtain ⟨_, _, rfl, rfl, ⟨_, _, rfl, rfl, rfl⟩⟩ := h
  exact rfl
theorem k137_openM {w : World} {base : Nat} {ok : Nat → Prop} {x : S137} {cs : List Value} (h : k137.M w base ok x cs) : cs = [.int .u8 x.f0, .int .u8 x.f1, .int .i8 x.f2] := by
  obtain ⟨_, _, rfl, rfl, ⟨_, _, rfl, rfl, rfl⟩⟩ := h
  exact rfl
theorem k137_mkM (w : World) (base : Nat) (ok : Nat → Prop) (x : S137)  : k137.M w base ok x [.int .u8 x.f0, .int .u8 x.f1, .int .i8 x.f2] := ⟨[.int .u8 x.f0], [.int .u8 x.f1, .int .i8 x.f2], rfl, rfl, ⟨[.int .u8 x.f1], [.int .i8 x.f2], rfl, rfl, rfl⟩⟩
def rd_T137 (xs : List S137) (i : Int) : S137 := xs.getD i.toNat z137
theorem at_T137 {w : World} {A : Option Addr} {n : Nat} {xs : List S137} (h : Kd.C k137 w A n xs) (i : Int) (h0 : 0 ≤ i) (h1 : i < n) : ∃ ad , A = some ad ∧ w.cell? (ad.add (i.toNat * 3)) = some (.int .u8 (rd_T137 xs i).f0) ∧ w.cell? ⟨(ad.add (i.toNat * 3)).block, (ad.add (i.toNat * 3)).off + 1, none⟩ = some (.int .u8 (rd_T137 xs i).f1) ∧ w.cell? ⟨(ad.add (i.toNat * 3)).block, (ad.add (i.toNat * 3)).off + 2, none⟩ = some (.int .i8 (rd_T137 xs i).f2) := by
  obtain ⟨ad, c, e, _, hK, hc0⟩ := Kd.C_get h z137 i h0 h1
  have hc : ∀ j u, c[j]? = some u → w.cell? (ad.add (i.toNat * 3 + j)) = some u := hc0
  obtain rfl := k137_open hK
  exact ⟨ad, e, hc 0 _ rfl, by rw [← add_field _ _ 1 (by omega)]; exact hc 1 _ rfl, by rw [← add_field _ _ 2 (by omega)]; exact hc 2 _ rfl⟩
end Go.Proofs.YticjkfacdmmopaaDoor.Q
namespace Go.Proofs.YticjkfacdmmopaaDoor.Ext
end Go.Proofs.YticjkfacdmmopaaDoor.Ext
namespace Go.Proofs.YticjkfacdmmopaaDoor.Q
open Go.Proofs.YticjkfacdmmopaaDoor.Ext
open Go.RowKit Go.Proofs.YticjkfacdmmopaaDoorW.PrintWords Go.Proofs.YticjkfacdmmopaaDoorW.PrintLast Go.Proofs.YticjkfacdmmopaaDoorW.PrintMore
attribute [local go_sem] max2_int min2_int max_two min_two max_three min_three max_four min_four
set_option linter.unusedVariables false
set_option linter.unusedSimpArgs false
end Go.Proofs.YticjkfacdmmopaaDoor.Q
namespace Go.Proofs.YticjkfacdmmopaaDoor.Ext
end Go.Proofs.YticjkfacdmmopaaDoor.Ext
namespace Go.Proofs.YticjkfacdmmopaaDoor.Q
open Go.Proofs.YticjkfacdmmopaaDoor.Ext
open Go.RowKit Go.Proofs.YticjkfacdmmopaaDoorW.PrintWords Go.Proofs.YticjkfacdmmopaaDoorW.PrintLast Go.Proofs.YticjkfacdmmopaaDoorW.PrintMore
attribute [local go_sem] max2_int min2_int max_two min_two max_three min_three max_four min_four
set_option linter.unusedVariables false
set_option linter.unusedSimpArgs false
def IsS32 (w0 W : World) (g : Nat) (f0 f1 f2 f3 f4 f5 f6 f7 f8 f9 f10 f11 f12 f13 f14 f15 f16 f17 f18 f19 f20 f21 f22 f23 f24 f25 f26 f27 : Int) (f28 : List (S137)) : Prop := ∃ A28 c28, W.heap[g]? = some (.cells #[.int .i8 f0, .int .i8 f1, .int .i8 f2, .int .i8 f3, .int .i8 f4, .int .i8 f5, .int .i8 f6, .int .i8 f7, .int .i8 f8, .int .i8 f9, .int .i8 f10, .int .i8 f11, .int .i8 f12, .int .i8 f13, .int .i8 f14, .int .i8 f15, .int .i8 f16, .int .i8 f17, .int .i8 f18, .int .i8 f19, .int .i8 f20, .int .i8 f21, .int .i8 f22, .int .i8 f23, .int .i8 f24, .int .i8 f25, .int .i8 f26, .int .i8 f27, .slice A28 f28.length c28] 32 (0, 0)) ∧ w0.heap.size ≤ g ∧ Kd.C k137 w0 A28 f28.length f28
theorem IsS32.grown {w0 W : World} {g : Nat} {f0 : Int} {f1 : Int} {f2 : Int} {f3 : Int} {f4 : Int} {f5 : Int} {f6 : Int} {f7 : Int} {f8 : Int} {f9 : Int} {f10 : Int} {f11 : Int} {f12 : Int} {f13 : Int} {f14 : Int} {f15 : Int} {f16 : Int} {f17 : Int} {f18 : Int} {f19 : Int} {f20 : Int} {f21 : Int} {f22 : Int} {f23 : Int} {f24 : Int} {f25 : Int} {f26 : Int} {f27 : Int} {f28 : List (S137)} {W1 : World} {row : Option Nat} (h : IsS32 w0 W g f0 f1 f2 f3 f4 f5 f6 f7 f8 f9 f10 f11 f12 f13 f14 f15 f16 f17 f18 f19 f20 f21 f22 f23 f24 f25 f26 f27 f28) (hw : W.grownBy W1 row) (hne : some g ≠ row) : IsS32 w0 W1 g f0 f1 f2 f3 f4 f5 f6 f7 f8 f9 f10 f11 f12 f13 f14 f15 f16 f17 f18 f19 f20 f21 f22 f23 f24 f25 f26 f27 f28 := by
  obtain ⟨A28, c28, hb, hg, hr28⟩ := h
  exact ⟨A28, c28, blk_grown hb hw hne, hg, hr28⟩
theorem IsS32.kept {w0 W : World} {g : Nat} {f0 : Int} {f1 : Int} {f2 : Int} {f3 : Int} {f4 : Int} {f5 : Int} {f6 : Int} {f7 : Int} {f8 : Int} {f9 : Int} {f10 : Int} {f11 : Int} {f12 : Int} {f13 : Int} {f14 : Int} {f15 : Int} {f16 : Int} {f17 : Int} {f18 : Int} {f19 : Int} {f20 : Int} {f21 : Int} {f22 : Int} {f23 : Int} {f24 : Int} {f25 : Int} {f26 : Int} {f27 : Int} {f28 : List (S137)} {W1 : World} {S : Nat → Prop} (h : IsS32 w0 W g f0 f1 f2 f3 f4 f5 f6 f7 f8 f9 f10 f11 f12 f13 f14 f15 f16 f17 f18 f19 f20 f21 f22 f23 f24 f25 f26 f27 f28) (hk : Kept W W1 S) (hne : ¬ S g) : IsS32 w0 W1 g f0 f1 f2 f3 f4 f5 f6 f7 f8 f9 f10 f11 f12 f13 f14 f15 f16 f17 f18 f19 f20 f21 f22 f23 f24 f25 f26 f27 f28 := by
  obtain ⟨A28, c28, hb, hg, hr28⟩ := h
  exact ⟨A28, c28, blk_kept hb hk hne, hg, hr28⟩
theorem IsS32.below {w0 W : World} {g : Nat} {f0 : Int} {f1 : Int} {f2 : Int} {f3 : Int} {f4 : Int} {f5 : Int} {f6 : Int} {f7 : Int} {f8 : Int} {f9 : Int} {f10 : Int} {f11 : Int} {f12 : Int} {f13 : Int} {f14 : Int} {f15 : Int} {f16 : Int} {f17 : Int} {f18 : Int} {f19 : Int} {f20 : Int} {f21 : Int} {f22 : Int} {f23 : Int} {f24 : Int} {f25 : Int} {f26 : Int} {f27 : Int} {f28 : List (S137)} {W1 : World} (h : IsS32 w0 W g f0 f1 f2 f3 f4 f5 f6 f7 f8 f9 f10 f11 f12 f13 f14 f15 f16 f17 f18 f19 f20 f21 f22 f23 f24 f25 f26 f27 f28) (hw : Below W.heap.size W W1) : IsS32 w0 W1 g f0 f1 f2 f3 f4 f5 f6 f7 f8 f9 f10 f11 f12 f13 f14 f15 f16 f17 f18 f19 f20 f21 f22 f23 f24 f25 f26 f27 f28 := h.grown (grown_of_below hw none) (by simp)
theorem IsS32.alloc {w0 W : World} {g : Nat} {f0 : Int} {f1 : Int} {f2 : Int} {f3 : Int} {f4 : Int} {f5 : Int} {f6 : Int} {f7 : Int} {f8 : Int} {f9 : Int} {f10 : Int} {f11 : Int} {f12 : Int} {f13 : Int} {f14 : Int} {f15 : Int} {f16 : Int} {f17 : Int} {f18 : Int} {f19 : Int} {f20 : Int} {f21 : Int} {f22 : Int} {f23 : Int} {f24 : Int} {f25 : Int} {f26 : Int} {f27 : Int} {f28 : List (S137)} (h : IsS32 w0 W g f0 f1 f2 f3 f4 f5 f6 f7 f8 f9 f10 f11 f12 f13 f14 f15 f16 f17 f18 f19 f20 f21 f22 f23 f24 f25 f26 f27 f28) (o : Obj) : IsS32 w0 (W.alloc o) g f0 f1 f2 f3 f4 f5 f6 f7 f8 f9 f10 f11 f12 f13 f14 f15 f16 f17 f18 f19 f20 f21 f22 f23 f24 f25 f26 f27 f28 := h.below (below_alloc (Below.refl _ _) o)
theorem IsS32.drewN {w0 W : World} {g : Nat} {f0 : Int} {f1 : Int} {f2 : Int} {f3 : Int} {f4 : Int} {f5 : Int} {f6 : Int} {f7 : Int} {f8 : Int} {f9 : Int} {f10 : Int} {f11 : Int} {f12 : Int} {f13 : Int} {f14 : Int} {f15 : Int} {f16 : Int} {f17 : Int} {f18 : Int} {f19 : Int} {f20 : Int} {f21 : Int} {f22 : Int} {f23 : Int} {f24 : Int} {f25 : Int} {f26 : Int} {f27 : Int} {f28 : List (S137)} (h : IsS32 w0 W g f0 f1 f2 f3 f4 f5 f6 f7 f8 f9 f10 f11 f12 f13 f14 f15 f16 f17 f18 f19 f20 f21 f22 f23 f24 f25 f26 f27 f28) (m : Nat) : IsS32 w0 (W.drewN m) g f0 f1 f2 f3 f4 f5 f6 f7 f8 f9 f10 f11 f12 f13 f14 f15 f16 f17 f18 f19 f20 f21 f22 f23 f24 f25 f26 f27 f28 := h
theorem IsS32.drew {w0 W : World} {g : Nat} {f0 : Int} {f1 : Int} {f2 : Int} {f3 : Int} {f4 : Int} {f5 : Int} {f6 : Int} {f7 : Int} {f8 : Int} {f9 : Int} {f10 : Int} {f11 : Int} {f12 : Int} {f13 : Int} {f14 : Int} {f15 : Int} {f16 : Int} {f17 : Int} {f18 : Int} {f19 : Int} {f20 : Int} {f21 : Int} {f22 : Int} {f23 : Int} {f24 : Int} {f25 : Int} {f26 : Int} {f27 : Int} {f28 : List (S137)} (h : IsS32 w0 W g f0 f1 f2 f3 f4 f5 f6 f7 f8 f9 f10 f11 f12 f13 f14 f15 f16 f17 f18 f19 f20 f21 f22 f23 f24 f25 f26 f27 f28) : IsS32 w0 W.drew g f0 f1 f2 f3 f4 f5 f6 f7 f8 f9 f10 f11 f12 f13 f14 f15 f16 f17 f18 f19 f20 f21 f22 f23 f24 f25 f26 f27 f28 := h
theorem IsS32.at_ {w0 W : World} {g : Nat} {f0 : Int} {f1 : Int} {f2 : Int} {f3 : Int} {f4 : Int} {f5 : Int} {f6 : Int} {f7 : Int} {f8 : Int} {f9 : Int} {f10 : Int} {f11 : Int} {f12 : Int} {f13 : Int} {f14 : Int} {f15 : Int} {f16 : Int} {f17 : Int} {f18 : Int} {f19 : Int} {f20 : Int} {f21 : Int} {f22 : Int} {f23 : Int} {f24 : Int} {f25 : Int} {f26 : Int} {f27 : Int} {f28 : List (S137)} {w' : World} {m : Nat} (hq : W.drewN m = w') (h : IsS32 w0 W g f0 f1 f2 f3 f4 f5 f6 f7 f8 f9 f10 f11 f12 f13 f14 f15 f16 f17 f18 f19 f20 f21 f22 f23 f24 f25 f26 f27 f28) : IsS32 w0 w' g f0 f1 f2 f3 f4 f5 f6 f7 f8 f9 f10 f11 f12 f13 f14 f15 f16 f17 f18 f19 f20 f21 f22 f23 f24 f25 f26 f27 f28 := by subst hq; exact IsS32.drewN h m
theorem IsS32.apart {w0 W : World} {g : Nat} {f0 : Int} {f1 : Int} {f2 : Int} {f3 : Int} {f4 : Int} {f5 : Int} {f6 : Int} {f7 : Int} {f8 : Int} {f9 : Int} {f10 : Int} {f11 : Int} {f12 : Int} {f13 : Int} {f14 : Int} {f15 : Int} {f16 : Int} {f17 : Int} {f18 : Int} {f19 : Int} {f20 : Int} {f21 : Int} {f22 : Int} {f23 : Int} {f24 : Int} {f25 : Int} {f26 : Int} {f27 : Int} {f28 : List (S137)} {α : Type} {d : Kd α} {e : Nat} {base : Nat} {ok : Nat → Prop} {v : Value} {xs : List α} (h : IsS32 w0 W g f0 f1 f2 f3 f4 f5 f6 f7 f8 f9 f10 f11 f12 f13 f14 f15 f16 f17 f18 f19 f20 f21 f22 f23 f24 f25 f26 f27 f28) (ho : d.R e W base ok v xs) (ht : ∀ q, q ∈ e :: d.E → q ≠ 32) : d.R e W base (fun k => ok k ∧ k ≠ g) v xs := by
  obtain ⟨A28, c28, hb, hg, hr28⟩ := h
  exact Kd.R_types ho hb ht
theorem IsS32.own_ne {w0 W : World} {g : Nat} {f0 : Int} {f1 : Int} {f2 : Int} {f3 : Int} {f4 : Int} {f5 : Int} {f6 : Int} {f7 : Int} {f8 : Int} {f9 : Int} {f10 : Int} {f11 : Int} {f12 : Int} {f13 : Int} {f14 : Int} {f15 : Int} {f16 : Int} {f17 : Int} {f18 : Int} {f19 : Int} {f20 : Int} {f21 : Int} {f22 : Int} {f23 : Int} {f24 : Int} {f25 : Int} {f26 : Int} {f27 : Int} {f28 : List (S137)} {α : Type} {d : Kd α} {e : Nat} {base : Nat} {ok : Nat → Prop} {v : Value} {xs : List α} (h : IsS32 w0 W g f0 f1 f2 f3 f4 f5 f6 f7 f8 f9 f10 f11 f12 f13 f14 f15 f16 f17 f18 f19 f20 f21 f22 f23 f24 f25 f26 f27 f28) (ho : d.R e W base ok v xs) (ht : e ≠ 32) : some g ≠ v.ownBlock := by
  obtain ⟨A28, c28, hb, hg, hr28⟩ := h
  exact Kd.R_ne ho hb ht
theorem IsS32.ge {w0 W : World} {g : Nat} {f0 : Int} {f1 : Int} {f2 : Int} {f3 : Int} {f4 : Int} {f5 : Int} {f6 : Int} {f7 : Int} {f8 : Int} {f9 : Int} {f10 : Int} {f11 : Int} {f12 : Int} {f13 : Int} {f14 : Int} {f15 : Int} {f16 : Int} {f17 : Int} {f18 : Int} {f19 : Int} {f20 : Int} {f21 : Int} {f22 : Int} {f23 : Int} {f24 : Int} {f25 : Int} {f26 : Int} {f27 : Int} {f28 : List (S137)} (h : IsS32 w0 W g f0 f1 f2 f3 f4 f5 f6 f7 f8 f9 f10 f11 f12 f13 f14 f15 f16 f17 f18 f19 f20 f21 f22 f23 f24 f25 f26 f27 f28) : w0.heap.size ≤ g := by
  obtain ⟨A28, c28, hb, hg, hr28⟩ := h
  exact hg
theorem cellS32_26 {W : World} {g : Nat} {A28 : Option Addr} {c28 : Nat} {f0 : Int} {f1 : Int} {f2 : Int} {f3 : Int} {f4 : Int} {f5 : Int} {f6 : Int} {f7 : Int} {f8 : Int} {f9 : Int} {f10 : Int} {f11 : Int} {f12 : Int} {f13 : Int} {f14 : Int} {f15 : Int} {f16 : Int} {f17 : Int} {f18 : Int} {f19 : Int} {f20 : Int} {f21 : Int} {f22 : Int} {f23 : Int} {f24 : Int} {f25 : Int} {f26 : Int} {f27 : Int} {f28 : List (S137)} (h : W.heap[g]? = some (.cells #[.int .i8 f0, .int .i8 f1, .int .i8 f2, .int .i8 f3, .int .i8 f4, .int .i8 f5, .int .i8 f6, .int .i8 f7, .int .i8 f8, .int .i8 f9, .int .i8 f10, .int .i8 f11, .int .i8 f12, .int .i8 f13, .int .i8 f14, .int .i8 f15, .int .i8 f16, .int .i8 f17, .int .i8 f18, .int .i8 f19, .int .i8 f20, .int .i8 f21, .int .i8 f22, .int .i8 f23, .int .i8 f24, .int .i8 f25, .int .i8 f26, .int .i8 f27, .slice A28 f28.length c28] 32 (0, 0))) : W.cell? ⟨g, 26, none⟩ = some (.int .i8 f26) := (blk_cell h 26).trans rfl
theorem cellS32_27 {W : World} {g : Nat} {A28 : Option Addr} {c28 : Nat} {f0 : Int} {f1 : Int} {f2 : Int} {f3 : Int} {f4 : Int} {f5 : Int} {f6 : Int} {f7 : Int} {f8 : Int} {f9 : Int} {f10 : Int} {f11 : Int} {f12 : Int} {f13 : Int} {f14 : Int} {f15 : Int} {f16 : Int} {f17 : Int} {f18 : Int} {f19 : Int} {f20 : Int} {f21 : Int} {f22 : Int} {f23 : Int} {f24 : Int} {f25 : Int} {f26 : Int} {f27 : Int} {f28 : List (S137)} (h : W.heap[g]? = some (.cells #[.int .i8 f0, .int .i8 f1, .int .i8 f2, .int .i8 f3, .int .i8 f4, .int .i8 f5, .int .i8 f6, .int .i8 f7, .int .i8 f8, .int .i8 f9, .int .i8 f10, .int .i8 f11, .int .i8 f12, .int .i8 f13, .int .i8 f14, .int .i8 f15, .int .i8 f16, .int .i8 f17, .int .i8 f18, .int .i8 f19, .int .i8 f20, .int .i8 f21, .int .i8 f22, .int .i8 f23, .int .i8 f24, .int .i8 f25, .int .i8 f26, .int .i8 f27, .slice A28 f28.length c28] 32 (0, 0))) : W.cell? ⟨g, 27, none⟩ = some (.int .i8 f27) := (blk_cell h 27).trans rfl
theorem cellS32_28 {W : World} {g : Nat} {A28 : Option Addr} {c28 : Nat} {f0 : Int} {f1 : Int} {f2 : Int} {f3 : Int} {f4 : Int} {f5 : Int} {f6 : Int} {f7 : Int} {f8 : Int} {f9 : Int} {f10 : Int} {f11 : Int} {f12 : Int} {f13 : Int} {f14 : Int} {f15 : Int} {f16 : Int} {f17 : Int} {f18 : Int} {f19 : Int} {f20 : Int} {f21 : Int} {f22 : Int} {f23 : Int} {f24 : Int} {f25 : Int} {f26 : Int} {f27 : Int} {f28 : List (S137)} (h : W.heap[g]? = some (.cells #[.int .i8 f0, .int .i8 f1, .int .i8 f2, .int .i8 f3, .int .i8 f4, .int .i8 f5, .int .i8 f6, .int .i8 f7, .int .i8 f8, .int .i8 f9, .int .i8 f10, .int .i8 f11, .int .i8 f12, .int .i8 f13, .int .i8 f14, .int .i8 f15, .int .i8 f16, .int .i8 f17, .int .i8 f18, .int .i8 f19, .int .i8 f20, .int .i8 f21, .int .i8 f22, .int .i8 f23, .int .i8 f24, .int .i8 f25, .int .i8 f26, .int .i8 f27, .slice A28 f28.length c28] 32 (0, 0))) : W.cell? ⟨g, 28, none⟩ = some (.slice A28 f28.length c28) := (blk_cell h 28).trans rfl
theorem IsS32.new (w0 W : World) (A28 : Option Addr) (c28 : Nat) (f0 f1 f2 f3 f4 f5 f6 f7 f8 f9 f10 f11 f12 f13 f14 f15 f16 f17 f18 f19 f20 f21 f22 f23 f24 f25 f26 f27 : Int) (f28 : List (S137)) (hB : Below w0.heap.size w0 W) (hr28 : Kd.C k137 w0 A28 f28.length f28) : IsS32 w0 (W.alloc (.cells #[.int .i8 f0, .int .i8 f1, .int .i8 f2, .int .i8 f3, .int .i8 f4, .int .i8 f5, .int .i8 f6, .int .i8 f7, .int .i8 f8, .int .i8 f9, .int .i8 f10, .int .i8 f11, .int .i8 f12, .int .i8 f13, .int .i8 f14, .int .i8 f15, .int .i8 f16, .int .i8 f17, .int .i8 f18, .int .i8 f19, .int .i8 f20, .int .i8 f21, .int .i8 f22, .int .i8 f23, .int .i8 f24, .int .i8 f25, .int .i8 f26, .int .i8 f27, .slice A28 f28.length c28] 32)) W.heap.size f0 f1 f2 f3 f4 f5 f6 f7 f8 f9 f10 f11 f12 f13 f14 f15 f16 f17 f18 f19 f20 f21 f22 f23 f24 f25 f26 f27 f28 := ⟨A28, c28, by simpa using heap_alloc_new W _, hB.size, hr28⟩
end Go.Proofs.YticjkfacdmmopaaDoor.Q
namespace Go.Proofs.YticjkfacdmmopaaDoor.Ext
end Go.Proofs.YticjkfacdmmopaaDoor.Ext
namespace Go.Proofs.YticjkfacdmmopaaDoor.Q
open Go.Proofs.YticjkfacdmmopaaDoor.Ext
open Go.RowKit Go.Proofs.YticjkfacdmmopaaDoorW.PrintWords Go.Proofs.YticjkfacdmmopaaDoorW.PrintLast Go.Proofs.YticjkfacdmmopaaDoorW.PrintMore
attribute [local go_sem] max2_int min2_int max_two min_two max_three min_three max_four min_four
set_option linter.unusedVariables false
set_option linter.unusedSimpArgs false
def impl_isLetter.f (a0 : Int) : Option (Bool) := if a0 ≥ 65 then (some (decide (a0 ≤ 90))) else (some false)
set_option maxHeartbeats 8000000 in
set_option maxRecDepth 100000 in
theorem impl_isLetter.calls (a0 : Int) (r : Bool) (w : World) (h : impl_isLetter.f a0 = some r) :
    Calls Tryd.prog 150 #[.int .u8 a0] w fun e w' => e = .returned (.bool r) ∧ Drawn0 w w' := by
  have H : (if a0 ≥ 65 then (some (decide (a0 ≤ 90))) else (some false)) = some r := h
  clear h
  by_cases c2 : a0 ≥ 65
  · rw [if_pos c2] at H
    have c2b0 : decide (65 ≤ a0) = true := decide_eq_true c2
    clear c2
    obtain rfl := Option.some.inj H
    go_enter Tryd.func150, Tryd.ntmps150
    go_wp2
    go_ret
    exact ⟨by first | rfl | (simp; done) | (simp [*]; done), by repeat (first | exact Drawn0.refl _ | apply Drawn0.step)⟩
  · rw [if_neg c2] at H
    have c2b0 : decide (65 ≤ a0) = false := decide_eq_false c2
    clear c2
    obtain rfl := Option.some.inj H
    go_enter Tryd.func150, Tryd.ntmps150
    go_wp2
    go_ret
    exact ⟨by first | rfl | (simp; done) | (simp [*]; done), by repeat (first | exact Drawn0.refl _ | apply Drawn0.step)⟩
def cmp_Or_int.l0 : Nat → Int → List Int → Int → Int → Option (Int)
  | 0, _, _, _, _ => none
  | k + 1, x3, x6, x7, x8 => if x8 < x7 then (if 0 ≤ x8 then (if x8 < (x6.length : Int) then (if (rd x6 x8) = x3 then (cmp_Or_int.l0 k x3 x6 x7 (wrap64 (x8 + 1))) else (some (rd x6 x8))) else (none)) else (none)) else (some x3)
def cmp_Or_int.f (k : Nat) (l0 : List Int) : Option (Int) := cmp_Or_int.l0 k 0 l0 (l0.length : Int) 0
theorem cmp_Or_int.mono_l : ∀ k, (∀ y0 y1 y2 y3, LeO (cmp_Or_int.l0 k y0 y1 y2 y3) (cmp_Or_int.l0 (k + 1) y0 y1 y2 y3))
  | 0 => fun _ _ _ _ r h => by simp [cmp_Or_int.l0] at h
  | k + 1 => by
    have ih0 := cmp_Or_int.mono_l k
    · intro y0 y1 y2 y3
      unfold cmp_Or_int.l0
      repeat' first
      | (with_reducible exact ih0 _ _ _ _)
      | (with_reducible exact LeO.refl _)
      | (with_reducible exact LeO.none _)
      | (with_reducible refine LeO.ite ?_ ?_)
      | (with_reducible refine LeO.bind ?_ (fun _ => ?_))
      | exact ih0 _ _ _ _
      | exact LeO.none _
      | refine LeO.ite ?_ ?_
      | refine LeO.bind ?_ (fun _ => ?_)
theorem cmp_Or_int.mono : ∀ a0 k, LeO (cmp_Or_int.f k a0) (cmp_Or_int.f (k + 1) a0) := by
  intro a0 k
  have ih0 := cmp_Or_int.mono_l k
  unfold cmp_Or_int.f
  repeat' first
      | (with_reducible exact ih0 _ _ _ _)
      | (with_reducible exact LeO.refl _)
      | (with_reducible exact LeO.none _)
      | (with_reducible refine LeO.ite ?_ ?_)
      | (with_reducible refine LeO.bind ?_ (fun _ => ?_))
      | exact ih0 _ _ _ _
      | exact LeO.none _
      | refine LeO.ite ?_ ?_
      | refine LeO.bind ?_ (fun _ => ?_)
set_option maxHeartbeats 8000000 in
set_option maxRecDepth 100000 in
theorem cmp_Or_int.calls (k : Nat) (A0 : Option Addr) (c0 : Nat) (l0 : List Int) (r : Int) (w : World) (hr0 : Kd.C (Kd.int .i64) w A0 l0.length l0) (hc0 : l0.length ≤ c0) (h : cmp_Or_int.f k l0 = some r) :
    Calls Tryd.prog 168 #[.slice A0 l0.length c0] w fun e w' => e = .returned (.int .i64 r) ∧ Drawn0 w w' := by
  have HR0 := Aside0.mk hr0
  have HC0 := Aside0.mk hc0
  clear hr0 hc0
  have H : (cmp_Or_int.l0 k 0 l0 (l0.length : Int) 0) = some r := h
  clear h
  have H' := Aside0.mk H
  clear H
  go_enter Tryd.func168, Tryd.ntmps168
  go_wp2
  go_loopg [8] k (fun kq v8 w' => ∃ (x8_1 : Int), v8 = .int .i64 x8_1 ∧ Aside0 (cmp_Or_int.l0 kq 0 l0 (l0.length : Int) x8_1 = some r) ∧ Aside0 (kq ≤ k) ∧ Drawn0 w w')
  case atStart => exact ⟨(0), (by first | rfl | (simp; done) | (simp [*]; done)), H', ⟨Nat.le_refl _⟩, by repeat (first | exact Drawn0.refl _ | apply Drawn0.step)⟩
  case round =>
    clear H'
    try clear c1
    obtain ⟨x8_1, rfl, HA, HK1, ⟨m1, rfl⟩⟩ := hrel
    cases gk with
    | zero => exact absurd HA.out (by simp [cmp_Or_int.l0])
    | succ k1 =>
      have H := HA.out
      clear HA
      simp only [cmp_Or_int.l0] at H
      by_cases c2 : x8_1 < (l0.length : Int)
      · rw [if_pos c2] at H
        have c2b0 : decide (x8_1 < (l0.length : Int)) = true := decide_eq_true c2
        clear c2
        by_cases c3 : 0 ≤ x8_1
        · rw [if_pos c3] at H
          have c3b0 : decide (0 ≤ x8_1) = true := decide_eq_true c3
          clear c3
          by_cases c4 : x8_1 < (l0.length : Int)
          · rw [if_pos c4] at H
            have c4b0 : decide (x8_1 < (l0.length : Int)) = true := decide_eq_true c4
            clear c4
            by_cases c5 : (rd l0 x8_1) = 0
            · rw [if_pos c5] at H
              have c5b0 : ((rd l0 x8_1) == 0) = true := beq_iff_eq.mpr c5
              have c5b1 : ((rd l0 x8_1) != 0) = false := bne_eq_false_iff_eq.mpr c5
              clear c5
              have H' := Aside0.mk H
              clear H
              have p131 : 0 ≤ (x8_1 : Int) := of_decide_eq_true (by first | (with_reducible assumption) | assumption)
              have q131 : x8_1 < (l0.length : Int) := of_decide_eq_true (by first | (with_reducible assumption) | assumption)
              obtain ⟨ad131, e131, hx131_0⟩ := Kd.at_int HR0.out x8_1 p131 q131
              cases e131
              replace p131 := eq_true p131
              replace q131 := eq_true q131
              go_wp2
              go_roundg k1
              case measure => have := HK1.out; omega
              case rel => exact ⟨(wrap64 (x8_1 + 1)), (by first | rfl | (simp; done) | (simp [*]; done)), H', ⟨by have := HK1.out; omega⟩, by repeat (first | exact Drawn0.refl _ | apply Drawn0.step)⟩
            · rw [if_neg c5] at H
              have c5b0 : ((rd l0 x8_1) == 0) = false := beq_eq_false_iff_ne.mpr c5
              have c5b1 : ((rd l0 x8_1) != 0) = true := bne_iff_ne.mpr c5
              obtain rfl := Option.some.inj H
              have p131 : 0 ≤ (x8_1 : Int) := of_decide_eq_true (by first | (with_reducible assumption) | assumption)
              have q131 : x8_1 < (l0.length : Int) := of_decide_eq_true (by first | (with_reducible assumption) | assumption)
              obtain ⟨ad131, e131, hx131_0⟩ := Kd.at_int HR0.out x8_1 p131 q131
              cases e131
              replace p131 := eq_true p131
              replace q131 := eq_true q131
              go_wp2
              go_ret
              exact ⟨by first | rfl | (simp; done) | (simp [*]; done), by repeat (first | exact Drawn0.refl _ | apply Drawn0.step)⟩
          · rw [if_neg c4] at H
            exact absurd H (by simp)
        · rw [if_neg c3] at H
          exact absurd H (by simp)
      · rw [if_neg c2] at H
        have c2b0 : decide (x8_1 < (l0.length : Int)) = false := decide_eq_false c2
        clear c2
        obtain rfl := Option.some.inj H
        go_wp2
        go_ret
        exact ⟨by first | rfl | (simp; done) | (simp [*]; done), by repeat (first | exact Drawn0.refl _ | apply Drawn0.step)⟩
def cmp_isNaN_uint8.f (a0 : Int) : Option (Bool) := some (a0 != a0)
set_option maxHeartbeats 8000000 in
set_option maxRecDepth 100000 in
theorem cmp_isNaN_uint8.calls (a0 : Int) (r : Bool) (w : World) (h : cmp_isNaN_uint8.f a0 = some r) :
    Calls Tryd.prog 183 #[.int .u8 a0] w fun e w' => e = .returned (.bool r) ∧ Drawn0 w w' := by
  have H : (some (a0 != a0)) = some r := h
  clear h
  obtain rfl := Option.some.inj H
  go_enter Tryd.func183, Tryd.ntmps183
  go_wp2
  go_ret
  exact ⟨by first | rfl | (simp; done) | (simp [*]; done), by repeat (first | exact Drawn0.refl _ | apply Drawn0.step)⟩
def cmp_Compare_uint8.f (a0 : Int) (a1 : Int) : Option (Int) := (cmp_isNaN_uint8.f a0).bind fun t132 => ((cmp_isNaN_uint8.f a1).bind fun t133 => (if t132 = true then (if t133 = true then (some 0) else (some (-1))) else (if t133 = true then (some 1) else (if a0 < a1 then (some (-1)) else (if a0 > a1 then (some 1) else (some 0))))))
set_option maxHeartbeats 8000000 in
set_option maxRecDepth 100000 in
theorem cmp_Compare_uint8.calls (a0 a1 r : Int) (w : World) (h : cmp_Compare_uint8.f a0 a1 = some r) :
    Calls Tryd.prog 169 #[.int .u8 a0, .int .u8 a1] w fun e w' => e = .returned (.int .i64 r) ∧ Drawn0 w w' := by
  have H : ((cmp_isNaN_uint8.f a0).bind fun t132 => ((cmp_isNaN_uint8.f a1).bind fun t133 => (if t132 = true then (if t133 = true then (some 0) else (some (-1))) else (if t133 = true then (some 1) else (if a0 < a1 then (some (-1)) else (if a0 > a1 then (some 1) else (some 0))))))) = some r := h
  clear h
  replace H := Option.bind_eq_some_iff.mp H
  obtain ⟨t132, A30, H⟩ := H
  replace H : ((cmp_isNaN_uint8.f a1).bind fun t133 => (if t132 = true then (if t133 = true then (some 0) else (some (-1))) else (if t133 = true then (some 1) else (if a0 < a1 then (some (-1)) else (if a0 > a1 then (some 1) else (some 0)))))) = some r := H
  have A3 := Aside0.mk A30
  clear A30
  replace H := Option.bind_eq_some_iff.mp H
  obtain ⟨t133, A40, H⟩ := H
  replace H : (if t132 = true then (if t133 = true then (some 0) else (some (-1))) else (if t133 = true then (some 1) else (if a0 < a1 then (some (-1)) else (if a0 > a1 then (some 1) else (some 0))))) = some r := H
  have A4 := Aside0.mk A40
  clear A40
  by_cases c5 : t132 = true
  · subst c5
    have H1 : (if t133 = true then (some 0) else (some (-1))) = some r := by rw [if_pos rfl] at H; exact H
    clear H
    have H := H1
    clear H1
    by_cases c6 : t133 = true
    · subst c6
      have H1 : (some 0) = some r := by rw [if_pos rfl] at H; exact H
      clear H
      have H := H1
      clear H1
      obtain rfl := Option.some.inj H
      go_enter Tryd.func169, Tryd.ntmps169
      go_wp2_with (first | ((with_reducible refine gate_callee (f := 183) rfl ?_); refine goesL_ (some 8) rfl rfl Tryd.func183 (by kernel_rfl) rfl #[.int .u8 a0] rfl (by (try simp only [List.map_toArray, List.map_cons, List.map_nil]); first | done | rfl | (simp only [List.length_drop, List.length_take]; rfl)) ?_; (with_reducible refine (cmp_isNaN_uint8.calls a0 true _ A3.out).mono ?_); rintro e w' ⟨rfl, ⟨nd, rfl⟩⟩; refine ⟨_, rfl, ?_⟩) | ((with_reducible refine gate_callee (f := 183) rfl ?_); refine goesL_ (some 10) rfl rfl Tryd.func183 (by kernel_rfl) rfl #[.int .u8 a1] rfl (by (try simp only [List.map_toArray, List.map_cons, List.map_nil]); first | done | rfl | (simp only [List.length_drop, List.length_take]; rfl)) ?_; (with_reducible refine (cmp_isNaN_uint8.calls a1 true _ A4.out).mono ?_); rintro e w' ⟨rfl, ⟨nd, rfl⟩⟩; refine ⟨_, rfl, ?_⟩))
      go_ret
      exact ⟨by first | rfl | (simp; done) | (simp [*]; done), by repeat (first | exact Drawn0.refl _ | apply Drawn0.step)⟩
    · replace c6 := Bool.eq_false_iff.mpr c6
      subst c6
      have H1 : (some (-1)) = some r := by rw [if_neg (show ¬ (false = true) by decide)] at H; exact H
      clear H
      have H := H1
      clear H1
      obtain rfl := Option.some.inj H
      go_enter Tryd.func169, Tryd.ntmps169
      go_wp2_with (first | ((with_reducible refine gate_callee (f := 183) rfl ?_); refine goesL_ (some 8) rfl rfl Tryd.func183 (by kernel_rfl) rfl #[.int .u8 a0] rfl (by (try simp only [List.map_toArray, List.map_cons, List.map_nil]); first | done | rfl | (simp only [List.length_drop, List.length_take]; rfl)) ?_; (with_reducible refine (cmp_isNaN_uint8.calls a0 true _ A3.out).mono ?_); rintro e w' ⟨rfl, ⟨nd, rfl⟩⟩; refine ⟨_, rfl, ?_⟩) | ((with_reducible refine gate_callee (f := 183) rfl ?_); refine goesL_ (some 10) rfl rfl Tryd.func183 (by kernel_rfl) rfl #[.int .u8 a1] rfl (by (try simp only [List.map_toArray, List.map_cons, List.map_nil]); first | done | rfl | (simp only [List.length_drop, List.length_take]; rfl)) ?_; (with_reducible refine (cmp_isNaN_uint8.calls a1 false _ A4.out).mono ?_); rintro e w' ⟨rfl, ⟨nd, rfl⟩⟩; refine ⟨_, rfl, ?_⟩))
      go_ret
      exact ⟨by first | rfl | (simp; done) | (simp [*]; done), by repeat (first | exact Drawn0.refl _ | apply Drawn0.step)⟩
  · replace c5 := Bool.eq_false_iff.mpr c5
    subst c5
    have H1 : (if t133 = true then (some 1) else (if a0 < a1 then (some (-1)) else (if a0 > a1 then (some 1) else (some 0)))) = some r := by rw [if_neg (show ¬ (false = true) by decide)] at H; exact H
    clear H
    have H := H1
    clear H1
    by_cases c7 : t133 = true
    · subst c7
      have H1 : (some 1) = some r := by rw [if_pos rfl] at H; exact H
      clear H
      have H := H1
      clear H1
      obtain rfl := Option.some.inj H
      go_enter Tryd.func169, Tryd.ntmps169
      go_wp2_with (first | ((with_reducible refine gate_callee (f := 183) rfl ?_); refine goesL_ (some 8) rfl rfl Tryd.func183 (by kernel_rfl) rfl #[.int .u8 a0] rfl (by (try simp only [List.map_toArray, List.map_cons, List.map_nil]); first | done | rfl | (simp only [List.length_drop, List.length_take]; rfl)) ?_; (with_reducible refine (cmp_isNaN_uint8.calls a0 false _ A3.out).mono ?_); rintro e w' ⟨rfl, ⟨nd, rfl⟩⟩; refine ⟨_, rfl, ?_⟩) | ((with_reducible refine gate_callee (f := 183) rfl ?_); refine goesL_ (some 10) rfl rfl Tryd.func183 (by kernel_rfl) rfl #[.int .u8 a1] rfl (by (try simp only [List.map_toArray, List.map_cons, List.map_nil]); first | done | rfl | (simp only [List.length_drop, List.length_take]; rfl)) ?_; (with_reducible refine (cmp_isNaN_uint8.calls a1 true _ A4.out).mono ?_); rintro e w' ⟨rfl, ⟨nd, rfl⟩⟩; refine ⟨_, rfl, ?_⟩))
      go_ret
      exact ⟨by first | rfl | (simp; done) | (simp [*]; done), by repeat (first | exact Drawn0.refl _ | apply Drawn0.step)⟩
    · replace c7 := Bool.eq_false_iff.mpr c7
      subst c7
      have H1 : (if a0 < a1 then (some (-1)) else (if a0 > a1 then (some 1) else (some 0))) = some r := by rw [if_neg (show ¬ (false = true) by decide)] at H; exact H
      clear H
      have H := H1
      clear H1
      by_cases c8 : a0 < a1
      · rw [if_pos c8] at H
        have c8b0 : decide (a0 < a1) = true := decide_eq_true c8
        clear c8
        obtain rfl := Option.some.inj H
        go_enter Tryd.func169, Tryd.ntmps169
        go_wp2_with (first | ((with_reducible refine gate_callee (f := 183) rfl ?_); refine goesL_ (some 8) rfl rfl Tryd.func183 (by kernel_rfl) rfl #[.int .u8 a0] rfl (by (try simp only [List.map_toArray, List.map_cons, List.map_nil]); first | done | rfl | (simp only [List.length_drop, List.length_take]; rfl)) ?_; (with_reducible refine (cmp_isNaN_uint8.calls a0 false _ A3.out).mono ?_); rintro e w' ⟨rfl, ⟨nd, rfl⟩⟩; refine ⟨_, rfl, ?_⟩) | ((with_reducible refine gate_callee (f := 183) rfl ?_); refine goesL_ (some 10) rfl rfl Tryd.func183 (by kernel_rfl) rfl #[.int .u8 a1] rfl (by (try simp only [List.map_toArray, List.map_cons, List.map_nil]); first | done | rfl | (simp only [List.length_drop, List.length_take]; rfl)) ?_; (with_reducible refine (cmp_isNaN_uint8.calls a1 false _ A4.out).mono ?_); rintro e w' ⟨rfl, ⟨nd, rfl⟩⟩; refine ⟨_, rfl, ?_⟩))
        go_ret
        exact ⟨by first | rfl | (simp; done) | (simp [*]; done), by repeat (first | exact Drawn0.refl _ | apply Drawn0.step)⟩
      · rw [if_neg c8] at H
        have c8b0 : decide (a0 < a1) = false := decide_eq_false c8
        clear c8
        by_cases c9 : a0 > a1
        · rw [if_pos c9] at H
          have c9b0 : decide (a1 < a0) = true := decide_eq_true c9
          clear c9
          obtain rfl := Option.some.inj H
          go_enter Tryd.func169, Tryd.ntmps169
          go_wp2_with (first | ((with_reducible refine gate_callee (f := 183) rfl ?_); refine goesL_ (some 8) rfl rfl Tryd.func183 (by kernel_rfl) rfl #[.int .u8 a0] rfl (by (try simp only [List.map_toArray, List.map_cons, List.map_nil]); first | done | rfl | (simp only [List.length_drop, List.length_take]; rfl)) ?_; (with_reducible refine (cmp_isNaN_uint8.calls a0 false _ A3.out).mono ?_); rintro e w' ⟨rfl, ⟨nd, rfl⟩⟩; refine ⟨_, rfl, ?_⟩) | ((with_reducible refine gate_callee (f := 183) rfl ?_); refine goesL_ (some 10) rfl rfl Tryd.func183 (by kernel_rfl) rfl #[.int .u8 a1] rfl (by (try simp only [List.map_toArray, List.map_cons, List.map_nil]); first | done | rfl | (simp only [List.length_drop, List.length_take]; rfl)) ?_; (with_reducible refine (cmp_isNaN_uint8.calls a1 false _ A4.out).mono ?_); rintro e w' ⟨rfl, ⟨nd, rfl⟩⟩; refine ⟨_, rfl, ?_⟩))
          go_ret
          exact ⟨by first | rfl | (simp; done) | (simp [*]; done), by repeat (first | exact Drawn0.refl _ | apply Drawn0.step)⟩
        · rw [if_neg c9] at H
          have c9b0 : decide (a1 < a0) = false := decide_eq_false c9
          clear c9
          obtain rfl := Option.some.inj H
          go_enter Tryd.func169, Tryd.ntmps169
          go_wp2_with (first | ((with_reducible refine gate_callee (f := 183) rfl ?_); refine goesL_ (some 8) rfl rfl Tryd.func183 (by kernel_rfl) rfl #[.int .u8 a0] rfl (by (try simp only [List.map_toArray, List.map_cons, List.map_nil]); first | done | rfl | (simp only [List.length_drop, List.length_take]; rfl)) ?_; (with_reducible refine (cmp_isNaN_uint8.calls a0 false _ A3.out).mono ?_); rintro e w' ⟨rfl, ⟨nd, rfl⟩⟩; refine ⟨_, rfl, ?_⟩) | ((with_reducible refine gate_callee (f := 183) rfl ?_); refine goesL_ (some 10) rfl rfl Tryd.func183 (by kernel_rfl) rfl #[.int .u8 a1] rfl (by (try simp only [List.map_toArray, List.map_cons, List.map_nil]); first | done | rfl | (simp only [List.length_drop, List.length_take]; rfl)) ?_; (with_reducible refine (cmp_isNaN_uint8.calls a1 false _ A4.out).mono ?_); rintro e w' ⟨rfl, ⟨nd, rfl⟩⟩; refine ⟨_, rfl, ?_⟩))
          go_ret
          exact ⟨by first | rfl | (simp; done) | (simp [*]; done), by repeat (first | exact Drawn0.refl _ | apply Drawn0.step)⟩
def impl_comparePairs.f (k : Nat) (a0_0 a0_1 a0_2 a1_0 a1_1 a1_2 : Int) : Option (Int) := (cmp_Compare_uint8.f a0_0 a1_0).bind fun t136 => ((cmp_Compare_uint8.f a0_1 a1_1).bind fun t137 => ((cmp_Or_int.f k (([t136, t137] : List Int))).bind fun t141 => (some t141)))
theorem impl_comparePairs.mono : ∀ a0 a1 a2 a3 a4 a5 k, LeO (impl_comparePairs.f k a0 a1 a2 a3 a4 a5) (impl_comparePairs.f (k + 1) a0 a1 a2 a3 a4 a5) := by
  intro a0 a1 a2 a3 a4 a5 k
  unfold impl_comparePairs.f
  repeat' first
      | (with_reducible exact cmp_Or_int.mono _ _)
      | (with_reducible exact LeO.refl _)
      | (with_reducible exact LeO.none _)
      | (with_reducible refine LeO.ite ?_ ?_)
      | (with_reducible refine LeO.bind ?_ (fun _ => ?_))
      | exact cmp_Or_int.mono _ _
      | exact LeO.none _
      | refine LeO.ite ?_ ?_
      | refine LeO.bind ?_ (fun _ => ?_)
def impl_comparePairs.T1 : Bool × List (List Nat × List Nat) := (true, [([], []), ([0], [0]), ([], []), ([2], [2]), ([1, 3], [1, 3]), ([], []), ([5], [5]), ([], []), ([7], [7]), ([6, 8, 4], [6, 8]), ([4, 9], [4, 9]), ([10, 9], [10]), ([11, 11, 0, 1, 2, 3, 4, 5, 6, 7, 8, 9, 10, 11], [11])])
def impl_comparePairs.B1 : List Nat := [0, 1, 0, 4, 15, 0, 32, 0, 128, 511, 1023, 2047, 4095]
theorem impl_comparePairs.tab1 : rtab .any (opsOf Tryd.f151 1) = impl_comparePairs.T1 := by kernel_rfl
theorem impl_comparePairs.bits1 : waitsOk impl_comparePairs.T1.2 impl_comparePairs.B1 = true := by kernel_rfl
set_option maxHeartbeats 8000000 in
set_option maxRecDepth 100000 in
theorem impl_comparePairs.calls (k : Nat) (a0_0 a0_1 a0_2 a1_0 a1_1 a1_2 r : Int) (w : World) (h : impl_comparePairs.f k a0_0 a0_1 a0_2 a1_0 a1_1 a1_2 = some r) :
    Calls Tryd.prog 151 #[.agg #[.int .u8 a0_0, .int .u8 a0_1, .int .i8 a0_2], .agg #[.int .u8 a1_0, .int .u8 a1_1, .int .i8 a1_2]] w fun e w' => e = .returned (.int .i64 r) ∧ Below w.heap.size w w' := by
  have hu137 := Tryd.underlying137
  have HB := Aside0.mk (Below.refl w.heap.size w)
  have H : ((cmp_Compare_uint8.f a0_0 a1_0).bind fun t136 => ((cmp_Compare_uint8.f a0_1 a1_1).bind fun t137 => ((cmp_Or_int.f k (([t136, t137] : List Int))).bind fun t141 => (some t141)))) = some r := h
  clear h
  replace H := Option.bind_eq_some_iff.mp H
  obtain ⟨t136, A30, H⟩ := H
  replace H : ((cmp_Compare_uint8.f a0_1 a1_1).bind fun t137 => ((cmp_Or_int.f k (([t136, t137] : List Int))).bind fun t141 => (some t141))) = some r := H
  have A3 := Aside0.mk A30
  clear A30
  replace H := Option.bind_eq_some_iff.mp H
  obtain ⟨t137, A40, H⟩ := H
  replace H : ((cmp_Or_int.f k (([t136, t137] : List Int))).bind fun t141 => (some t141)) = some r := H
  have A4 := Aside0.mk A40
  clear A40
  obtain ⟨y138, hy138⟩ : ∃ y_ : List Int, y_ = (([t136, t137] : List Int)) := ⟨_, rfl⟩
  replace H : ((cmp_Or_int.f k y138).bind fun t141 => (some t141)) = some r := by first | (rw [hy138]; with_reducible exact H) | (have H2_ := (Option.bind_some _ _).symm.trans H; rw [hy138]; with_reducible exact H2_) | (have H2_ := (Option.bind_some _ _).symm.trans H; with_reducible exact H2_) | with_reducible exact H | (rw [hy138]; exact H) | exact H
  have Ny138 := Aside0.mk hy138
  clear hy138
  replace H := Option.bind_eq_some_iff.mp H
  obtain ⟨t141, A50, H⟩ := H
  replace H : (some t141) = some r := H
  have A5 := Aside0.mk A50
  clear A50
  obtain rfl := Option.some.inj H
  go_enter Tryd.func151, Tryd.ntmps151
  try go_wp2_with (first | ((with_reducible refine gate_dst (N := 2) rfl ?_); refine box_event ?hg (N := 2) ?hd (cs := #[.int .u8 a0_0, .int .u8 a0_1, .int .i8 a0_2]) (t := 137) ?hr ?_; (case hd => rfl); (case hg => rfl); (case hr => first | (go_simp; done) | (go_simp; rfl)); intro gb134 hg w6 hbox hb; have n0_ := Aside0.mk (below_step (by repeat (first | (with_reducible first | exact HB.out | apply below_alloc | apply pw_below_drewN | apply below_drew1) | exact HB.out)) hb); have n1_ := Aside0.mk (hbox); have n2_ := Aside0.mk ((by rw [hg]; exact (below_size (by repeat (first | (with_reducible first | exact HB.out | apply below_alloc | apply pw_below_drewN | apply below_drew1) | exact HB.out))) : w.heap.size ≤ gb134)); have n3_ := Aside0.mk ((by rw [hg]; exact (below_size (by repeat (first | (with_reducible first | exact HB.out | apply below_alloc | apply pw_below_drewN | apply below_drew1) | exact HB.out))) : w.heap.size ≤ gb134)); clear HB; have HB := n0_; have BK134 := n1_; have GW134 := n2_; have GE134 := n3_; clear n0_ n1_ n2_ n3_; clear hb hbox hg) | ((with_reducible refine gate_dst (N := 3) rfl ?_); refine box_event ?hg (N := 3) ?hd (cs := #[.int .u8 a1_0, .int .u8 a1_1, .int .i8 a1_2]) (t := 137) ?hr ?_; (case hd => rfl); (case hg => rfl); (case hr => first | (go_simp; done) | (go_simp; rfl)); intro gb135 hg w7 hbox hb; have n0_ := Aside0.mk (blk_below (g := gb134) (o := .cells #[.int .u8 a0_0, .int .u8 a0_1, .int .i8 a0_2] 137 (0, 0)) (by (with_reducible repeat (first | refine blk_drewN ?_ _ | refine blk_drew ?_ | refine blk_alloc ?_ _)); exact BK134.out) hb); have n1_ := Aside0.mk (below_step (by repeat (first | (with_reducible first | exact HB.out | apply below_alloc | apply pw_below_drewN | apply below_drew1 | refine below_set ?_ GE134.out) | exact HB.out)) hb); have n2_ := Aside0.mk (hbox); have n3_ := Aside0.mk ((by rw [hg]; exact (below_size (by repeat (first | (with_reducible first | exact HB.out | apply below_alloc | apply pw_below_drewN | apply below_drew1 | refine below_set ?_ GE134.out) | exact HB.out))) : w.heap.size ≤ gb135)); have n4_ := Aside0.mk ((by rw [hg]; exact (below_size (by repeat (first | (with_reducible first | exact HB.out | apply below_alloc | apply pw_below_drewN | apply below_drew1 | refine below_set ?_ GE134.out) | exact HB.out))) : w.heap.size ≤ gb135)); have n5_ := Aside0.mk ((by rw [hg]; exact Nat.ne_of_lt (blk_lt (g := gb134) (o := .cells #[.int .u8 a0_0, .int .u8 a0_1, .int .i8 a0_2] 137 (0, 0)) (by (with_reducible repeat (first | refine blk_drewN ?_ _ | refine blk_drew ?_ | refine blk_alloc ?_ _)); exact BK134.out)) : gb134 ≠ gb135)); have n6_ := Aside0.mk ((by rw [hg]; exact Nat.ne_of_gt (blk_lt (g := gb134) (o := .cells #[.int .u8 a0_0, .int .u8 a0_1, .int .i8 a0_2] 137 (0, 0)) (by (with_reducible repeat (first | refine blk_drewN ?_ _ | refine blk_drew ?_ | refine blk_alloc ?_ _)); exact BK134.out)) : gb135 ≠ gb134)); clear BK134; clear HB; have BK134 := n0_; have HB := n1_; have BK135 := n2_; have GW135 := n3_; have GE135 := n4_; have NB134_135 := n5_; have NB135_134 := n6_; clear n0_ n1_ n2_ n3_ n4_ n5_ n6_; clear hb hbox hg))
  have n0_ := Aside0.mk (blk_drew BK134.out)
  have n1_ := Aside0.mk (blk_drew BK135.out)
  have n2_ := Aside0.mk (below_drew1 HB.out)
  clear BK134
  clear BK135
  clear HB
  have BK134 := n0_
  have BK135 := n1_
  have HB := n2_
  clear n0_ n1_ n2_
  refine start_ (n := 13) (S := fun w' => w'.cell? ⟨gb134, 0, none⟩ = some (.int .u8 a0_0) ∧ w'.cell? ⟨gb134, 1, none⟩ = some (.int .u8 a0_1) ∧ w'.cell? ⟨gb134, 2, none⟩ = some (.int .i8 a0_2) ∧ w'.cell? ⟨gb135, 0, none⟩ = some (.int .u8 a1_0) ∧ w'.cell? ⟨gb135, 1, none⟩ = some (.int .u8 a1_1) ∧ w'.cell? ⟨gb135, 2, none⟩ = some (.int .i8 a1_2)) (ds := []) #[false, false, false, false, false, false, false, false, false, false, false, false, false] (by kernel_rfl) rfl rfl ⟨(blk_cell BK134.out 0).trans rfl, (blk_cell BK134.out 1).trans rfl, (blk_cell BK134.out 2).trans rfl, (blk_cell BK135.out 0).trans rfl, (blk_cell BK135.out 1).trans rfl, (blk_cell BK135.out 2).trans rfl⟩ (fun hHeld => ?_); refine with_tabW impl_comparePairs.tab1 impl_comparePairs.bits1 (fun HT_ HW_ => ?_)
  generalize w7.drew = w8 at BK134 BK135 HB hHeld ⊢
  refine pure_ (i := 0) (N := some 5) (v := ?_) (a' := ?_) #[true, false, false, false, false, false, false, false, false, false, false, false, false] rfl rfl (any_of HT_.out (by kernel_rfl)) (fun _ _ _ h => h) (Or.inl ⟨by rfl, ?_⟩) ?_ ?_
  rotate_left
  · intro w'
    go_simp
    with_reducible rfl
  rotate_left
  · simp only [Act.put, List.setIfInBounds_toArray, List.set_cons_zero, List.set_cons_succ, i64_w, i32_w, u8_w_]
    rfl
  refine pure_ (i := 2) (N := some 7) (v := ?_) (a' := ?_) #[true, false, true, false, false, false, false, false, false, false, false, false, false] rfl rfl (any_of HT_.out (by kernel_rfl)) (fun _ _ _ h => h) (Or.inl ⟨by rfl, ?_⟩) ?_ ?_
  rotate_left
  · intro w'
    go_simp
    with_reducible rfl
  rotate_left
  · simp only [Act.put, List.setIfInBounds_toArray, List.set_cons_zero, List.set_cons_succ, i64_w, i32_w, u8_w_]
    rfl
  refine pure_ (i := 5) (N := some 10) (v := ?_) (a' := ?_) #[true, false, true, false, false, true, false, false, false, false, false, false, false] rfl rfl (any_of HT_.out (by kernel_rfl)) (fun _ _ _ h => h) (Or.inl ⟨by rfl, ?_⟩) ?_ ?_
  rotate_left
  · intro w'
    go_simp
    with_reducible rfl
  rotate_left
  · simp only [Act.put, List.setIfInBounds_toArray, List.set_cons_zero, List.set_cons_succ, i64_w, i32_w, u8_w_]
    rfl
  refine pure_ (i := 7) (N := some 12) (v := ?_) (a' := ?_) #[true, false, true, false, false, true, false, true, false, false, false, false, false] rfl rfl (any_of HT_.out (by kernel_rfl)) (fun _ _ _ h => h) (Or.inl ⟨by rfl, ?_⟩) ?_ ?_
  rotate_left
  · intro w'
    go_simp
    with_reducible rfl
  rotate_left
  · simp only [Act.put, List.setIfInBounds_toArray, List.set_cons_zero, List.set_cons_succ, i64_w, i32_w, u8_w_]
    rfl
  refine take_ (i := 1) (N := some 6) (v := ?_) (a' := ?_) #[true, true, true, false, false, true, false, true, false, false, false, false, false] rfl rfl (take_ofW HT_.out HW_.out (by kernel_rfl)) (fun _ _ _ h => h) (Or.inl ⟨by rfl, ?_⟩) hHeld ?_ ?_
  rotate_left
  · rintro w' ⟨s0, s1, s2, s3, s4, s5⟩
    go_simp
    with_reducible rfl
  rotate_left
  · simp only [Act.put, List.setIfInBounds_toArray, List.set_cons_zero, List.set_cons_succ, i64_w, i32_w, u8_w_]
    rfl
  refine take_ (i := 3) (N := some 8) (v := ?_) (a' := ?_) #[true, true, true, true, false, true, false, true, false, false, false, false, false] rfl rfl (take_ofW HT_.out HW_.out (by kernel_rfl)) (fun _ _ _ h => h) (Or.inl ⟨by rfl, ?_⟩) hHeld ?_ ?_
  rotate_left
  · rintro w' ⟨s0, s1, s2, s3, s4, s5⟩
    go_simp
    with_reducible rfl
  rotate_left
  · simp only [Act.put, List.setIfInBounds_toArray, List.set_cons_zero, List.set_cons_succ, i64_w, i32_w, u8_w_]
    rfl
  refine take_ (i := 6) (N := some 11) (v := ?_) (a' := ?_) #[true, true, true, true, false, true, true, true, false, false, false, false, false] rfl rfl (take_ofW HT_.out HW_.out (by kernel_rfl)) (fun _ _ _ h => h) (Or.inl ⟨by rfl, ?_⟩) hHeld ?_ ?_
  rotate_left
  · rintro w' ⟨s0, s1, s2, s3, s4, s5⟩
    go_simp
    with_reducible rfl
  rotate_left
  · simp only [Act.put, List.setIfInBounds_toArray, List.set_cons_zero, List.set_cons_succ, i64_w, i32_w, u8_w_]
    rfl
  refine take_ (i := 8) (N := some 13) (v := ?_) (a' := ?_) #[true, true, true, true, false, true, true, true, true, false, false, false, false] rfl rfl (take_ofW HT_.out HW_.out (by kernel_rfl)) (fun _ _ _ h => h) (Or.inl ⟨by rfl, ?_⟩) hHeld ?_ ?_
  rotate_left
  · rintro w' ⟨s0, s1, s2, s3, s4, s5⟩
    go_simp
    with_reducible rfl
  rotate_left
  · simp only [Act.put, List.setIfInBounds_toArray, List.set_cons_zero, List.set_cons_succ, i64_w, i32_w, u8_w_]
    rfl
  refine one_ (i := 4) (N := some 9) #[true, true, true, true, true, true, true, true, true, false, false, false, false] rfl rfl (one_of HT_.out (by kernel_rfl)) (by decide) (fun K hK => ?_)
  refine goes_ Tryd.func169 (by kernel_rfl) rfl #[.int .u8 a0_0, .int .u8 a1_0] (by rfl) rfl rfl (by (try simp only [List.map_toArray, List.map_cons, List.map_nil]); first | done | rfl | (simp only [List.length_drop, List.length_take]; rfl)) ?_
  with_reducible refine (cmp_Compare_uint8.calls a0_0 a1_0 t136 _ A3.out).mono ?_
  rintro e w' ⟨rfl, ⟨nd, rfl⟩⟩
  refine ⟨_, rfl, ?_⟩
  refine hK.out _ _ ⟨(blk_cell BK134.out 0).trans rfl, (blk_cell BK134.out 1).trans rfl, (blk_cell BK134.out 2).trans rfl, (blk_cell BK135.out 0).trans rfl, (blk_cell BK135.out 1).trans rfl, (blk_cell BK135.out 2).trans rfl⟩ (fun hHeld => ?_)
  clear hK K
  refine norm_ (a' := ?_) ?_ ?_
  rotate_left
  · show Act.put _ (some 9) _ = _
    simp only [Act.put, List.setIfInBounds_toArray, List.set_cons_zero, List.set_cons_succ, i64_w, i32_w, u8_w_]
    rfl
  refine one_ (i := 9) (N := some 14) #[true, true, true, true, true, true, true, true, true, true, false, false, false] rfl rfl (one_of HT_.out (by kernel_rfl)) (by decide) (fun K hK => ?_)
  refine goes_ Tryd.func169 (by kernel_rfl) rfl #[.int .u8 a0_1, .int .u8 a1_1] (by rfl) rfl rfl (by (try simp only [List.map_toArray, List.map_cons, List.map_nil]); first | done | rfl | (simp only [List.length_drop, List.length_take]; rfl)) ?_
  with_reducible refine (cmp_Compare_uint8.calls a0_1 a1_1 t137 _ A4.out).mono ?_
  rintro e w' ⟨rfl, ⟨nd, rfl⟩⟩
  refine ⟨_, rfl, ?_⟩
  refine hK.out _ _ ⟨(blk_cell BK134.out 0).trans rfl, (blk_cell BK134.out 1).trans rfl, (blk_cell BK134.out 2).trans rfl, (blk_cell BK135.out 0).trans rfl, (blk_cell BK135.out 1).trans rfl, (blk_cell BK135.out 2).trans rfl⟩ (fun hHeld => ?_)
  clear hK K
  refine norm_ (a' := ?_) ?_ ?_
  rotate_left
  · show Act.put _ (some 14) _ = _
    simp only [Act.put, List.setIfInBounds_toArray, List.set_cons_zero, List.set_cons_succ, i64_w, i32_w, u8_w_]
    rfl
  refine one_ (i := 10) (N := some 15) #[true, true, true, true, true, true, true, true, true, true, true, false, false] rfl rfl (one_of HT_.out (by kernel_rfl)) (by decide) (fun K hK => ?_)
  refine Kd.R_lit_step (Kd.int .i64) _ 3 ?hg (N := 15) ?hd (xs := ([t136, t137] : List Int)) (inner := [.int .i64 t136, .int .i64 t137]) (ok := fun _ => True) (okp := fun _ => True) ?hr ?hp (fun _ hk => hk) trivial (Below.refl _ _) (Nat.le_refl _) (by simp) ?_; (case hd => rfl); (case hg => rfl); (case hr => first | (go_simp; done) | (go_simp; rfl)); (case hp => exact (Reps.one (show Kd.M (Kd.int .i64) _ _ _ t136 [.int .i64 t136] from rfl) (Reps.one (show Kd.M (Kd.int .i64) _ _ _ t137 [.int .i64 t137] from rfl) (Reps.none _ _))))
  intro v139 w9 ho10 hb hg_ hnew_
  clear hg_ hnew_
  (first | rw [← Ny138.out] at ho10 | (simp only [Int.reduceToNat] at ho10; rw [← Ny138.out] at ho10))
  have n0_ := Aside0.mk (Kd.R_lower ho10 (below_size (by repeat (first | (with_reducible first | exact HB.out | apply below_alloc | apply pw_below_drewN | apply below_drew1 | refine below_set ?_ GE134.out | refine below_set ?_ GE135.out) | exact HB.out))))
  have n1_ := Aside0.mk (blk_below (g := gb134) (o := .cells #[.int .u8 a0_0, .int .u8 a0_1, .int .i8 a0_2] 137 (0, 0)) (by (with_reducible repeat (first | refine blk_drewN ?_ _ | refine blk_drew ?_ | refine blk_alloc ?_ _)); exact BK134.out) hb)
  have n2_ := Aside0.mk (blk_below (g := gb135) (o := .cells #[.int .u8 a1_0, .int .u8 a1_1, .int .i8 a1_2] 137 (0, 0)) (by (with_reducible repeat (first | refine blk_drewN ?_ _ | refine blk_drew ?_ | refine blk_alloc ?_ _)); exact BK135.out) hb)
  have n3_ := Aside0.mk (below_step (by repeat (first | (with_reducible first | exact HB.out | apply below_alloc | apply pw_below_drewN | apply below_drew1 | refine below_set ?_ GE134.out | refine below_set ?_ GE135.out) | exact HB.out)) hb)
  clear BK134
  clear BK135
  clear HB
  have HO140 := n0_
  have BK134 := n1_
  have BK135 := n2_
  have HB := n3_
  clear n0_ n1_ n2_ n3_
  clear hb ho10
  obtain ⟨Ao11, co11, eo11⟩ := Kd.R_slice HO140.out
  (first | subst eo11 | (injection eo11 with f1_ f2_ f3_; have f4_ := f1_.symm; have f5_ := f3_.symm; clear f1_ f2_ f3_; subst f4_; subst f5_))
  refine hK.out _ _ ⟨(blk_cell BK134.out 0).trans rfl, (blk_cell BK134.out 1).trans rfl, (blk_cell BK134.out 2).trans rfl, (blk_cell BK135.out 0).trans rfl, (blk_cell BK135.out 1).trans rfl, (blk_cell BK135.out 2).trans rfl⟩ (fun hHeld => ?_)
  clear hK K
  refine norm_ (a' := ?_) ?_ ?_
  rotate_left
  · show Act.put _ (some 15) _ = _
    simp only [Act.put, List.setIfInBounds_toArray, List.set_cons_zero, List.set_cons_succ, i64_w, i32_w, u8_w_]
    rfl
  refine one_ (i := 11) (N := some 16) #[true, true, true, true, true, true, true, true, true, true, true, true, false] rfl rfl (one_of HT_.out (by kernel_rfl)) (by decide) (fun K hK => ?_)
  refine goes_ Tryd.func168 (by kernel_rfl) rfl #[.slice Ao11 y138.length co11] (by rfl) rfl rfl (by (try simp only [List.map_toArray, List.map_cons, List.map_nil]); first | done | rfl | (simp only [List.length_drop, List.length_take]; rfl)) ?_
  with_reducible refine (cmp_Or_int.calls k _ _ y138 t141 _ ?side1 ?side2 A5.out).mono ?_
  (case side1 => repeat (first | exact (Kd.R_reads' HO140.out).2.2 | (with_reducible refine Kd.C_alloc ?_ _) | (with_reducible refine Kd.C_drewN ?_ _) | (with_reducible refine Kd.C_drew ?_)))
  (case side2 => exact (Kd.R_reads' HO140.out).2.1)
  rintro e w' ⟨rfl, ⟨nd, rfl⟩⟩
  refine ⟨_, rfl, ?_⟩
  refine hK.out _ _ ⟨(blk_cell BK134.out 0).trans rfl, (blk_cell BK134.out 1).trans rfl, (blk_cell BK134.out 2).trans rfl, (blk_cell BK135.out 0).trans rfl, (blk_cell BK135.out 1).trans rfl, (blk_cell BK135.out 2).trans rfl⟩ (fun hHeld => ?_)
  clear hK K
  refine norm_ (a' := ?_) ?_ ?_
  rotate_left
  · show Act.put _ (some 16) _ = _
    simp only [Act.put, List.setIfInBounds_toArray, List.set_cons_zero, List.set_cons_succ, i64_w, i32_w, u8_w_]
    rfl
  refine pure_ (i := 12) (N := some 4) (v := ?_) (a' := ?_) #[true, true, true, true, true, true, true, true, true, true, true, true, true] rfl rfl (any_of HT_.out (by kernel_rfl)) (fun _ _ _ h => h) (Or.inl ⟨by rfl, ?_⟩) ?_ ?_
  rotate_left
  · intro w'
    go_simp
    with_reducible rfl
  rotate_left
  · simp only [Act.put, List.setIfInBounds_toArray, List.set_cons_zero, List.set_cons_succ, i64_w, i32_w, u8_w_]
    rfl
  refine done_ (done_of HT_.out (by kernel_rfl)) ?_
  try go_wp2
  go_ret
  exact ⟨by first | rfl | (simp [errW_none, errW_some] <;> rfl) | (simp [*, errW_none, errW_some] <;> rfl), by repeat (first | (with_reducible first | exact HB.out | apply below_alloc | apply pw_below_drewN | apply below_drew1 | refine below_set ?_ GE134.out | refine below_set ?_ GE135.out) | exact HB.out)⟩
end Go.Proofs.YticjkfacdmmopaaDoor.Q
namespace Go.Proofs.YticjkfacdmmopaaDoor.Ext
open Go.RowKit Go.Proofs.YticjkfacdmmopaaDoorW.PrintWords Go.Proofs.YticjkfacdmmopaaDoorW.PrintLast Go.Proofs.YticjkfacdmmopaaDoorW.PrintMore
set_option linter.unusedVariables false
set_option linter.unusedSimpArgs false
theorem ba_ext {a b : ByteArray} (h : a.data.toList = b.data.toList) : a = b := by
  apply ByteArray.ext
  exact Array.toList_inj.1 h
def strings_Trim.f (s c : ByteArray) : Option ByteArray := if c.data.toList = [32] ∧ s.size ≤ 9223372036854775807 then some ⟨(Lib.trimB s.data.toList 32).toArray⟩ else none
theorem strings_Trim.calls (a0 a1 : ByteArray) (r : ByteArray) (w : World) (h : strings_Trim.f a0 a1 = some r) :
    Calls Tryd.prog 144 #[.string a0, .string a1] w fun e w' => e = .returned (.string r) ∧ Below w.heap.size w w' := by
  unfold strings_Trim.f at h
  split at h
  · rename_i hc
    obtain ⟨h1, h2⟩ := hc
    obtain rfl := Option.some.inj h
    obtain rfl : a1 = ⟨#[32]⟩ := ba_ext h1
    exact (Tryd.strings_Trim_one a0 32 (by decide) w h2).mono fun e w' ⟨h3, h4⟩ => ⟨h3, by
      rcases h4 with rfl | rfl
      · exact Below.refl _ _
      · exact (Below.refl _ _).drew⟩
  · cases h
def strings_Contains.f (s c : ByteArray) : Option Bool := if s.size < 4294967281 then some (Lib.contains s.data.toList c.data.toList) else none
theorem strings_Contains.calls (a0 a1 : ByteArray) (r : Bool) (w : World) (hG : GlobM w) (h : strings_Contains.f a0 a1 = some r) :
    Calls Tryd.prog 122 #[.string a0, .string a1] w fun e w' => e = .returned (.bool r) ∧ Below w.heap.size w w' := by
  unfold strings_Contains.f at h
  split at h
  · rename_i hc
    obtain rfl := Option.some.inj h
    obtain ⟨m, hm⟩ := hG.m
    exact (Tryd.strings_Contains a0 a1 m w hc hm).mono fun e w' ⟨h3, h4⟩ => ⟨h3, by subst h4; exact Below.refl _ _⟩
  · cases h
theorem index_cons_self (c : UInt8) (l : List UInt8) : Lib.index (c :: l) [c] = (0 : Nat) := by rw [Lib.index_one]; simp [Lib.indexByte]
theorem index_cons_miss {x c : UInt8} (hx : x ≠ c) {l : List UInt8} (h : Lib.index l [c] = -1) : Lib.index (x :: l) [c] = -1 := by
  rw [Lib.index_one] at h ⊢
  simp [Lib.indexByte, hx, h]
theorem index_cons_hit {x c : UInt8} (hx : x ≠ c) {l : List UInt8} {i : Nat} (h : Lib.index l [c] = i) : Lib.index (x :: l) [c] = (i + 1 : Nat) := by
  rw [Lib.index_one] at h ⊢
  have h0 : ¬ ((i : Int) == -1) = true := by rw [beq_iff_eq]; omega
  have hb : ¬ (x == c) = true := by simpa using hx
  rw [Lib.indexByte, if_neg hb, h, if_neg h0]
  omega
theorem index_two (c : UInt8) (l : List UInt8) : Lib.index l [c] = -1 ∨ ∃ i : Nat, Lib.index l [c] = i := by
  have := Lib.index_ge l [c]
  by_cases h : Lib.index l [c] = -1
  · exact .inl h
  · exact .inr ⟨(Lib.index l [c]).toNat, by omega⟩
theorem count_one (c : UInt8) : ∀ (l : List UInt8) (k : Nat), l.length < k → Lib.countFrom [c] k l = l.count c
  | _, 0, h => absurd h (Nat.not_lt_zero _)
  | [], k + 1, h => by simp [Lib.countFrom, show Lib.index [] [c] = -1 from rfl]
  | x :: l, k + 1, h => by
    by_cases hx : x = c
    · subst hx
      have hb : ¬ (((0 : Nat) : Int) == -1) = true := by decide
      rw [Lib.countFrom, index_cons_self, if_neg hb]
      simp only [Int.toNat_natCast, List.length_singleton, Nat.zero_add, List.drop_one, List.tail_cons]
      rw [count_one x l k (by simp at h; omega)]
      simp; omega
    · have ih := count_one c l (k + 1) (by simp at h; omega)
      rw [List.count_cons_of_ne (by simpa using hx), ← ih]
      rcases index_two c l with hm | ⟨i, hi⟩
      · simp only [Lib.countFrom, index_cons_miss hx hm, hm, BEq.rfl, if_true]
      · have hb : ¬ ((i : Int) == -1) = true := by rw [beq_iff_eq]; omega
        have hb' : ¬ (((i + 1 : Nat) : Int) == -1) = true := by rw [beq_iff_eq]; omega
        simp only [Lib.countFrom, index_cons_hit hx hi, hi, if_neg hb, if_neg hb', Int.toNat_natCast, List.length_singleton, List.drop_succ_cons]
theorem replaceK_one (c : UInt8) : ∀ (l : List UInt8) (k : Nat), l.count c ≤ k → Lib.replaceK [c] [] k l = l.filter (fun b => b != c)
  | [], k, _ => by
    cases k
    · rfl
    · simp [Lib.replaceK, show Lib.index [] [c] = -1 from rfl]
  | x :: l, k, h => by
    by_cases hx : x = c
    · subst hx
      cases k with
      | zero => simp at h
      | succ k =>
        rw [Lib.replaceK_hit _ _ _ _ 0 (index_cons_self x l)]
        simp only [List.take_zero, List.nil_append, Nat.zero_add, List.length_singleton, List.drop_one, List.tail_cons]
        rw [replaceK_one x l k (by simp at h; omega)]
        simp
    · have ih := replaceK_one c l k (by rw [List.count_cons_of_ne (by simpa using hx)] at h; exact h)
      have e : (x :: l).filter (fun b => b != c) = x :: l.filter (fun b => b != c) := by simp [hx]
      rw [e, ← ih]
      cases k with
      | zero => rfl
      | succ k =>
        rcases index_two c l with hm | ⟨i, hi⟩
        · simp only [Lib.replaceK, index_cons_miss hx hm, hm, BEq.rfl, if_true]
        · rw [Lib.replaceK_hit _ _ _ _ _ (index_cons_hit hx hi), Lib.replaceK_hit _ _ _ _ _ hi]
          simp
theorem replaceAll_one (s : List UInt8) (c : UInt8) : Lib.replaceAll s [c] [] = s.filter (fun b => b != c) := by
  unfold Lib.replaceAll Lib.replace Lib.replaceNum
  rw [if_neg (by simp), if_pos (by omega)]
  exact replaceK_one c s _ (by unfold Lib.count; rw [count_one c s _ (by omega)]; exact Nat.le_refl _)
def strings_ReplaceAll.f (s old new : ByteArray) : Option ByteArray := if (old.data.toList = [32] ∧ new.data.toList = []) ∧ s.size < 4294967281 then some ⟨(s.data.toList.filter (fun b => b != 32)).toArray⟩ else none
theorem strings_ReplaceAll.calls (a0 a1 a2 : ByteArray) (r : ByteArray) (w : World) (hG : GlobM w) (h : strings_ReplaceAll.f a0 a1 a2 = some r) :
    Calls Tryd.prog 130 #[.string a0, .string a1, .string a2] w fun e w' => e = .returned (.string r) ∧ Below w.heap.size w w' := by
  unfold strings_ReplaceAll.f at h
  split at h
  · rename_i hc
    obtain ⟨⟨h1, h2⟩, h3⟩ := hc
    obtain rfl := Option.some.inj h
    obtain rfl : a1 = ⟨#[32]⟩ := ba_ext h1
    obtain rfl : a2 = ⟨#[]⟩ := ba_ext h2
    obtain ⟨m, hm⟩ := hG.m
    refine (Tryd.strings_ReplaceAll a0 ⟨#[32]⟩ ⟨#[]⟩ m w h3 hm (by decide) (by rw [show (⟨#[]⟩ : ByteArray).size = 0 from rfl, Nat.mul_zero]; omega)).mono fun e w' ⟨h4, h5⟩ => ⟨?_, h5⟩
    rw [h4, ← replaceAll_one]
  · cases h
end Go.Proofs.YticjkfacdmmopaaDoor.Ext
namespace Go.Proofs.YticjkfacdmmopaaDoor.Q
open Go.Proofs.YticjkfacdmmopaaDoor.Ext
open Go.RowKit Go.Proofs.YticjkfacdmmopaaDoorW.PrintWords Go.Proofs.YticjkfacdmmopaaDoorW.PrintLast Go.Proofs.YticjkfacdmmopaaDoorW.PrintMore
attribute [local go_sem] max2_int min2_int max_two min_two max_three min_three max_four min_four
set_option linter.unusedVariables false
set_option linter.unusedSimpArgs false
def impl_isSpaced.l0 : Nat → ByteArray → Int → Int → Option (Bool)
  | 0, _, _, _ => none
  | k + 1, x0, x5, x6 => if x6 < x5 then (if 0 ≤ x6 then (if x6 < (x0.size : Int) then ((impl_isLetter.f (bt x0 x6)).bind fun t144 => (if t144 = true then (impl_isSpaced.l0 k x0 x5 (wrap64 (x6 + 1))) else (if (bt x0 x6) = 32 then (impl_isSpaced.l0 k x0 x5 (wrap64 (x6 + 1))) else (some false)))) else (none)) else (none)) else ((strings_Contains.f x0 (⟨#[32, 32]⟩ : ByteArray)).bind fun t145 => (some (!t145)))
def impl_isSpaced.f (k : Nat) (a0 : ByteArray) : Option (Bool) := impl_isSpaced.l0 k a0 (a0.size : Int) 0
theorem impl_isSpaced.mono_l : ∀ k, (∀ y0 y1 y2, LeO (impl_isSpaced.l0 k y0 y1 y2) (impl_isSpaced.l0 (k + 1) y0 y1 y2))
  | 0 => fun _ _ _ r h => by simp [impl_isSpaced.l0] at h
  | k + 1 => by
    have ih0 := impl_isSpaced.mono_l k
    · intro y0 y1 y2
      unfold impl_isSpaced.l0
      repeat' first
      | (with_reducible exact ih0 _ _ _)
      | (with_reducible exact LeO.refl _)
      | (with_reducible exact LeO.none _)
      | (with_reducible refine LeO.ite ?_ ?_)
      | (with_reducible refine LeO.bind ?_ (fun _ => ?_))
      | exact ih0 _ _ _
      | exact LeO.none _
      | refine LeO.ite ?_ ?_
      | refine LeO.bind ?_ (fun _ => ?_)
theorem impl_isSpaced.mono : ∀ a0 k, LeO (impl_isSpaced.f k a0) (impl_isSpaced.f (k + 1) a0) := by
  intro a0 k
  have ih0 := impl_isSpaced.mono_l k
  unfold impl_isSpaced.f
  repeat' first
      | (with_reducible exact ih0 _ _ _)
      | (with_reducible exact LeO.refl _)
      | (with_reducible exact LeO.none _)
      | (with_reducible refine LeO.ite ?_ ?_)
      | (with_reducible refine LeO.bind ?_ (fun _ => ?_))
      | exact ih0 _ _ _
      | exact LeO.none _
      | refine LeO.ite ?_ ?_
      | refine LeO.bind ?_ (fun _ => ?_)
set_option maxHeartbeats 8000000 in
set_option maxRecDepth 100000 in
theorem impl_isSpaced.calls (k : Nat) (a0 : ByteArray) (r : Bool) (w : World) (hG : GlobM w) (h : impl_isSpaced.f k a0 = some r) :
    Calls Tryd.prog 135 #[.string a0] w fun e w' => e = .returned (.bool r) ∧ Below w.heap.size w w' := by
  have HG := Aside0.mk hG
  clear hG
  have HB := Aside0.mk (Below.refl w.heap.size w)
  have H : (impl_isSpaced.l0 k a0 (a0.size : Int) 0) = some r := h
  clear h
  have H' := Aside0.mk H
  clear H
  go_enter Tryd.func135, Tryd.ntmps135
  go_wp2
  go_loopg [6] k (fun kq v6 w' => ∃ (x6_1 : Int), v6 = .int .i64 x6_1 ∧ Aside0 (impl_isSpaced.l0 kq a0 (a0.size : Int) x6_1 = some r) ∧ Aside0 (kq ≤ k) ∧ Aside0 (Below w.heap.size w w'))
  case atStart => exact ⟨(0), (by first | rfl | (simp; done) | (simp [*]; done)), H', ⟨Nat.le_refl _⟩, ⟨by repeat (first | (with_reducible first | exact HB.out | apply below_alloc | apply pw_below_drewN | apply below_drew1) | exact HB.out)⟩⟩
  case round =>
    clear H'
    try clear c1
    obtain ⟨x6_1, rfl, HA, HK1, HB⟩ := hrel
    cases gk with
    | zero => exact absurd HA.out (by simp [impl_isSpaced.l0])
    | succ k1 =>
      have H := HA.out
      clear HA
      simp only [impl_isSpaced.l0] at H
      by_cases c2 : x6_1 < (a0.size : Int)
      · rw [if_pos c2] at H
        have c2b0 : decide (x6_1 < (a0.size : Int)) = true := decide_eq_true c2
        clear c2
        by_cases c3 : 0 ≤ x6_1
        · rw [if_pos c3] at H
          have c3b0 : decide (0 ≤ x6_1) = true := decide_eq_true c3
          clear c3
          by_cases c4 : x6_1 < (a0.size : Int)
          · rw [if_pos c4] at H
            have c4b0 : decide (x6_1 < (a0.size : Int)) = true := decide_eq_true c4
            clear c4
            replace H := Option.bind_eq_some_iff.mp H
            obtain ⟨t144, A60, H⟩ := H
            replace H : (if t144 = true then (impl_isSpaced.l0 k1 a0 (a0.size : Int) (wrap64 (x6_1 + 1))) else (if (bt a0 x6_1) = 32 then (impl_isSpaced.l0 k1 a0 (a0.size : Int) (wrap64 (x6_1 + 1))) else (some false))) = some r := H
            have A6 := Aside0.mk A60
            clear A60
            by_cases c7 : t144 = true
            · subst c7
              have H1 : (impl_isSpaced.l0 k1 a0 (a0.size : Int) (wrap64 (x6_1 + 1))) = some r := by rw [if_pos rfl] at H; exact H
              clear H
              have H := H1
              clear H1
              have H' := Aside0.mk H
              clear H
              have p5 : 0 ≤ (x6_1 : Int) := of_decide_eq_true (by first | (with_reducible assumption) | assumption)
              have q5 : x6_1 < (a0.size : Int) := of_decide_eq_true (by first | (with_reducible assumption) | assumption)
              have hx5 := bt_at a0 x6_1
              replace p5 := eq_true p5
              replace q5 := eq_true q5
              go_wp2_with (first | ((with_reducible refine gate_callee (f := 150) rfl ?_); refine goesL_ (some 12) rfl rfl Tryd.func150 (by kernel_rfl) rfl #[.int .u8 (bt a0 x6_1)] rfl (by (try simp only [List.map_toArray, List.map_cons, List.map_nil]); first | done | rfl | (simp only [List.length_drop, List.length_take]; rfl)) ?_; (with_reducible refine (impl_isLetter.calls (bt a0 x6_1) true _ A6.out).mono ?_); rintro e w' ⟨rfl, ⟨nd, rfl⟩⟩; refine ⟨_, rfl, ?_⟩))
              go_roundg k1
              case measure => have := HK1.out; omega
              case rel => exact ⟨(wrap64 (x6_1 + 1)), (by first | rfl | (simp; done) | (simp [*]; done)), H', ⟨by have := HK1.out; omega⟩, ⟨by repeat (first | (with_reducible first | exact HB.out | apply below_alloc | apply pw_below_drewN | apply below_drew1) | exact HB.out)⟩⟩
            · replace c7 := Bool.eq_false_iff.mpr c7
              subst c7
              have H1 : (if (bt a0 x6_1) = 32 then (impl_isSpaced.l0 k1 a0 (a0.size : Int) (wrap64 (x6_1 + 1))) else (some false)) = some r := by rw [if_neg (show ¬ (false = true) by decide)] at H; exact H
              clear H
              have H := H1
              clear H1
              by_cases c9 : (bt a0 x6_1) = 32
              · rw [if_pos c9] at H
                have c9b0 : ((bt a0 x6_1) == 32) = true := beq_iff_eq.mpr c9
                have c9b1 : ((bt a0 x6_1) != 32) = false := bne_eq_false_iff_eq.mpr c9
                clear c9
                have H' := Aside0.mk H
                clear H
                have p5 : 0 ≤ (x6_1 : Int) := of_decide_eq_true (by first | (with_reducible assumption) | assumption)
                have q5 : x6_1 < (a0.size : Int) := of_decide_eq_true (by first | (with_reducible assumption) | assumption)
                have hx5 := bt_at a0 x6_1
                replace p5 := eq_true p5
                replace q5 := eq_true q5
                go_wp2_with (first | ((with_reducible refine gate_callee (f := 150) rfl ?_); refine goesL_ (some 12) rfl rfl Tryd.func150 (by kernel_rfl) rfl #[.int .u8 (bt a0 x6_1)] rfl (by (try simp only [List.map_toArray, List.map_cons, List.map_nil]); first | done | rfl | (simp only [List.length_drop, List.length_take]; rfl)) ?_; (with_reducible refine (impl_isLetter.calls (bt a0 x6_1) false _ A6.out).mono ?_); rintro e w' ⟨rfl, ⟨nd, rfl⟩⟩; refine ⟨_, rfl, ?_⟩; have p8 : 0 ≤ (x6_1 : Int) := of_decide_eq_true (by first | (with_reducible assumption) | assumption); have q8 : x6_1 < (a0.size : Int) := of_decide_eq_true (by first | (with_reducible assumption) | assumption); have hx8 := bt_at a0 x6_1; replace p8 := eq_true p8; replace q8 := eq_true q8))
                go_roundg k1
                case measure => have := HK1.out; omega
                case rel => exact ⟨(wrap64 (x6_1 + 1)), (by first | rfl | (simp; done) | (simp [*]; done)), H', ⟨by have := HK1.out; omega⟩, ⟨by repeat (first | (with_reducible first | exact HB.out | apply below_alloc | apply pw_below_drewN | apply below_drew1) | exact HB.out)⟩⟩
              · rw [if_neg c9] at H
                have c9b0 : ((bt a0 x6_1) == 32) = false := beq_eq_false_iff_ne.mpr c9
                have c9b1 : ((bt a0 x6_1) != 32) = true := bne_iff_ne.mpr c9
                obtain rfl := Option.some.inj H
                have p5 : 0 ≤ (x6_1 : Int) := of_decide_eq_true (by first | (with_reducible assumption) | assumption)
                have q5 : x6_1 < (a0.size : Int) := of_decide_eq_true (by first | (with_reducible assumption) | assumption)
                have hx5 := bt_at a0 x6_1
                replace p5 := eq_true p5
                replace q5 := eq_true q5
                go_wp2_with (first | ((with_reducible refine gate_callee (f := 150) rfl ?_); refine goesL_ (some 12) rfl rfl Tryd.func150 (by kernel_rfl) rfl #[.int .u8 (bt a0 x6_1)] rfl (by (try simp only [List.map_toArray, List.map_cons, List.map_nil]); first | done | rfl | (simp only [List.length_drop, List.length_take]; rfl)) ?_; (with_reducible refine (impl_isLetter.calls (bt a0 x6_1) false _ A6.out).mono ?_); rintro e w' ⟨rfl, ⟨nd, rfl⟩⟩; refine ⟨_, rfl, ?_⟩; have p8 : 0 ≤ (x6_1 : Int) := of_decide_eq_true (by first | (with_reducible assumption) | assumption); have q8 : x6_1 < (a0.size : Int) := of_decide_eq_true (by first | (with_reducible assumption) | assumption); have hx8 := bt_at a0 x6_1; replace p8 := eq_true p8; replace q8 := eq_true q8))
                go_ret
                exact ⟨by first | rfl | (simp [errW_none, errW_some] <;> rfl) | (simp [*, errW_none, errW_some] <;> rfl), by repeat (first | (with_reducible first | exact HB.out | apply below_alloc | apply pw_below_drewN | apply below_drew1) | exact HB.out)⟩
          · rw [if_neg c4] at H
            exact absurd H (by simp)
        · rw [if_neg c3] at H
          exact absurd H (by simp)
      · rw [if_neg c2] at H
        have c2b0 : decide (x6_1 < (a0.size : Int)) = false := decide_eq_false c2
        clear c2
        replace H := Option.bind_eq_some_iff.mp H
        obtain ⟨t145, A100, H⟩ := H
        replace H : (some (!t145)) = some r := H
        have A10 := Aside0.mk A100
        clear A100
        obtain rfl := Option.some.inj H
        go_wp2_with (first | ((with_reducible refine gate_callee (f := 122) rfl ?_); refine goesL_ (some 22) rfl rfl Tryd.func122 (by kernel_rfl) rfl #[.string a0, .string (⟨#[32, 32]⟩ : ByteArray)] rfl (by (try simp only [List.map_toArray, List.map_cons, List.map_nil]); first | done | rfl | (simp only [List.length_drop, List.length_take]; rfl)) ?_; (with_reducible refine (strings_Contains.calls a0 (⟨#[32, 32]⟩ : ByteArray) t145 _ ?sideG A10.out).mono ?_); (case sideG => first | exact HG.out.below (by repeat (first | (with_reducible first | exact HB.out | apply below_alloc | apply pw_below_drewN | apply below_drew1) | exact HB.out)) | exact (HG.out.below (by repeat (first | (with_reducible first | exact HB.out | apply below_alloc | apply pw_below_drewN | apply below_drew1) | exact HB.out))).toM); rintro e w11 ⟨rfl, hb⟩; refine ⟨_, rfl, ?_⟩; have n0_ := Aside0.mk (below_step (by repeat (first | (with_reducible first | exact HB.out | apply below_alloc | apply pw_below_drewN | apply below_drew1) | exact HB.out)) hb); clear HB; have HB := n0_; clear n0_; (try clear hb); (try clear hb2); (try clear hk); (try clear hi)))
        go_ret
        exact ⟨by first | rfl | (simp [errW_none, errW_some] <;> rfl) | (simp [*, errW_none, errW_some] <;> rfl), by repeat (first | (with_reducible first | exact HB.out | apply below_alloc | apply pw_below_drewN | apply below_drew1) | exact HB.out)⟩
end Go.Proofs.YticjkfacdmmopaaDoor.Q
namespace Go.Proofs.YticjkfacdmmopaaDoor.Ext
end Go.Proofs.YticjkfacdmmopaaDoor.Ext
namespace Go.Proofs.YticjkfacdmmopaaDoor.Q
open Go.Proofs.YticjkfacdmmopaaDoor.Ext
open Go.RowKit Go.Proofs.YticjkfacdmmopaaDoorW.PrintWords Go.Proofs.YticjkfacdmmopaaDoorW.PrintLast Go.Proofs.YticjkfacdmmopaaDoorW.PrintMore
attribute [local go_sem] max2_int min2_int max_two min_two max_three min_three max_four min_four
set_option linter.unusedVariables false
set_option linter.unusedSimpArgs false
def impl_ValidText.f (k : Nat) (a0 : ByteArray) : Option (Bool) := if (a0.size : Int) ≤ 60 then ((impl_isSpaced.f k a0).bind fun t146 => (if t146 = true then ((strings_Trim.f a0 (⟨#[32]⟩ : ByteArray)).bind fun t147 => (some (t147.toList == a0.toList))) else (some false))) else (some false)
theorem impl_ValidText.mono : ∀ a0 k, LeO (impl_ValidText.f k a0) (impl_ValidText.f (k + 1) a0) := by
  intro a0 k
  unfold impl_ValidText.f
  repeat' first
      | (with_reducible exact impl_isSpaced.mono _ _)
      | (with_reducible exact LeO.refl _)
      | (with_reducible exact LeO.none _)
      | (with_reducible refine LeO.ite ?_ ?_)
      | (with_reducible refine LeO.bind ?_ (fun _ => ?_))
      | exact impl_isSpaced.mono _ _
      | exact LeO.none _
      | refine LeO.ite ?_ ?_
      | refine LeO.bind ?_ (fun _ => ?_)
set_option maxHeartbeats 8000000 in
set_option maxRecDepth 100000 in
theorem impl_ValidText.calls (k : Nat) (a0 : ByteArray) (r : Bool) (w : World) (hG : GlobM w) (h : impl_ValidText.f k a0 = some r) :
    Calls Tryd.prog 109 #[.string a0] w fun e w' => e = .returned (.bool r) ∧ Below w.heap.size w w' := by
  have HG := Aside0.mk hG
  clear hG
  have HB := Aside0.mk (Below.refl w.heap.size w)
  have H : (if (a0.size : Int) ≤ 60 then ((impl_isSpaced.f k a0).bind fun t146 => (if t146 = true then ((strings_Trim.f a0 (⟨#[32]⟩ : ByteArray)).bind fun t147 => (some (t147.toList == a0.toList))) else (some false))) else (some false)) = some r := h
  clear h
  by_cases c2 : (a0.size : Int) ≤ 60
  · rw [if_pos c2] at H
    have c2b0 : decide ((a0.size : Int) ≤ 60) = true := decide_eq_true c2
    have c2b1 : decide (a0.size ≤ 60) = true := decide_eq_true (by omega)
    clear c2
    replace H := Option.bind_eq_some_iff.mp H
    obtain ⟨t146, A30, H⟩ := H
    replace H : (if t146 = true then ((strings_Trim.f a0 (⟨#[32]⟩ : ByteArray)).bind fun t147 => (some (t147.toList == a0.toList))) else (some false)) = some r := H
    have A3 := Aside0.mk A30
    clear A30
    by_cases c4 : t146 = true
    · subst c4
      have H1 : ((strings_Trim.f a0 (⟨#[32]⟩ : ByteArray)).bind fun t147 => (some (t147.toList == a0.toList))) = some r := by rw [if_pos rfl] at H; exact H
      clear H
      have H := H1
      clear H1
      replace H := Option.bind_eq_some_iff.mp H
      obtain ⟨t147, A50, H⟩ := H
      replace H : (some (t147.toList == a0.toList)) = some r := H
      have A5 := Aside0.mk A50
      clear A50
      obtain rfl := Option.some.inj H
      go_enter Tryd.func109, Tryd.ntmps109
      go_wp2_with (first | (go_at_call 135; (with_reducible refine (impl_isSpaced.calls k a0 true _ ?sideG A3.out).mono ?_); (case sideG => first | exact HG.out.below (by repeat (first | (with_reducible first | exact HB.out | apply below_alloc | apply pw_below_drewN | apply below_drew1) | exact HB.out)) | exact (HG.out.below (by repeat (first | (with_reducible first | exact HB.out | apply below_alloc | apply pw_below_drewN | apply below_drew1) | exact HB.out))).toM); rintro e w6 ⟨rfl, hb⟩; have n0_ := Aside0.mk (below_step (by repeat (first | (with_reducible first | exact HB.out | apply below_alloc | apply pw_below_drewN | apply below_drew1) | exact HB.out)) hb); clear HB; have HB := n0_; clear n0_; (try clear hb); (try clear hb2); (try clear hk); (try clear hi)) | (go_at_call 144; (with_reducible refine (strings_Trim.calls a0 (⟨#[32]⟩ : ByteArray) t147 _ A5.out).mono ?_); rintro e w7 ⟨rfl, hb⟩; have n0_ := Aside0.mk (below_step (by repeat (first | (with_reducible first | exact HB.out | apply below_alloc | apply pw_below_drewN | apply below_drew1) | exact HB.out)) hb); clear HB; have HB := n0_; clear n0_; (try clear hb); (try clear hb2); (try clear hk); (try clear hi)))
      go_ret
      exact ⟨by first | rfl | (simp [errW_none, errW_some] <;> rfl) | (simp [*, errW_none, errW_some] <;> rfl), by repeat (first | (with_reducible first | exact HB.out | apply below_alloc | apply pw_below_drewN | apply below_drew1) | exact HB.out)⟩
    · replace c4 := Bool.eq_false_iff.mpr c4
      subst c4
      have H1 : (some false) = some r := by rw [if_neg (show ¬ (false = true) by decide)] at H; exact H
      clear H
      have H := H1
      clear H1
      obtain rfl := Option.some.inj H
      go_enter Tryd.func109, Tryd.ntmps109
      go_wp2_with (first | (go_at_call 135; (with_reducible refine (impl_isSpaced.calls k a0 false _ ?sideG A3.out).mono ?_); (case sideG => first | exact HG.out.below (by repeat (first | (with_reducible first | exact HB.out | apply below_alloc | apply pw_below_drewN | apply below_drew1) | exact HB.out)) | exact (HG.out.below (by repeat (first | (with_reducible first | exact HB.out | apply below_alloc | apply pw_below_drewN | apply below_drew1) | exact HB.out))).toM); rintro e w8 ⟨rfl, hb⟩; have n0_ := Aside0.mk (below_step (by repeat (first | (with_reducible first | exact HB.out | apply below_alloc | apply pw_below_drewN | apply below_drew1) | exact HB.out)) hb); clear HB; have HB := n0_; clear n0_; (try clear hb); (try clear hb2); (try clear hk); (try clear hi)))
      go_ret
      exact ⟨by first | rfl | (simp [errW_none, errW_some] <;> rfl) | (simp [*, errW_none, errW_some] <;> rfl), by repeat (first | (with_reducible first | exact HB.out | apply below_alloc | apply pw_below_drewN | apply below_drew1) | exact HB.out)⟩
  · rw [if_neg c2] at H
    have c2b0 : decide ((a0.size : Int) ≤ 60) = false := decide_eq_false c2
    have c2b1 : decide (a0.size ≤ 60) = false := decide_eq_false (by omega)
    clear c2
    obtain rfl := Option.some.inj H
    go_enter Tryd.func109, Tryd.ntmps109
    go_wp2
    go_ret
    exact ⟨by first | rfl | (simp [errW_none, errW_some] <;> rfl) | (simp [*, errW_none, errW_some] <;> rfl), by repeat (first | (with_reducible first | exact HB.out | apply below_alloc | apply pw_below_drewN | apply below_drew1) | exact HB.out)⟩
def impl_Face_letter.f (a0_0 a0_1 a0_2 a0_3 a0_4 a0_5 a0_6 a0_7 a0_8 a0_9 a0_10 a0_11 a0_12 a0_13 a0_14 a0_15 a0_16 a0_17 a0_18 a0_19 a0_20 a0_21 a0_22 a0_23 a0_24 a0_25 a0_26 a0_27 : Int) (l0_28 : List (S137)) (a1 : Int) : Option (Int) := if 0 ≤ ((a1 - 65) % 256) then (if ((a1 - 65) % 256) < 26 then (some (wrap64 (rd [a0_0, a0_1, a0_2, a0_3, a0_4, a0_5, a0_6, a0_7, a0_8, a0_9, a0_10, a0_11, a0_12, a0_13, a0_14, a0_15, a0_16, a0_17, a0_18, a0_19, a0_20, a0_21, a0_22, a0_23, a0_24, a0_25] ((a1 - 65) % 256)))) else (none)) else (none)
set_option maxHeartbeats 8000000 in
set_option maxRecDepth 100000 in
theorem impl_Face_letter.calls (a0_0 a0_1 a0_2 a0_3 a0_4 a0_5 a0_6 a0_7 a0_8 a0_9 a0_10 a0_11 a0_12 a0_13 a0_14 a0_15 a0_16 a0_17 a0_18 a0_19 a0_20 a0_21 a0_22 a0_23 a0_24 a0_25 a0_26 a0_27 : Int) (A0_28 : Option Addr) (c0_28 : Nat) (l0_28 : List (S137)) (a1 : Int) (r : Int) (w : World) (hr0_28 : Kd.C k137 w A0_28 l0_28.length l0_28) (hc0_28 : l0_28.length ≤ c0_28) (h : impl_Face_letter.f a0_0 a0_1 a0_2 a0_3 a0_4 a0_5 a0_6 a0_7 a0_8 a0_9 a0_10 a0_11 a0_12 a0_13 a0_14 a0_15 a0_16 a0_17 a0_18 a0_19 a0_20 a0_21 a0_22 a0_23 a0_24 a0_25 a0_26 a0_27 l0_28 a1 = some r) :
    Calls Tryd.prog 86 #[.agg #[.int .i8 a0_0, .int .i8 a0_1, .int .i8 a0_2, .int .i8 a0_3, .int .i8 a0_4, .int .i8 a0_5, .int .i8 a0_6, .int .i8 a0_7, .int .i8 a0_8, .int .i8 a0_9, .int .i8 a0_10, .int .i8 a0_11, .int .i8 a0_12, .int .i8 a0_13, .int .i8 a0_14, .int .i8 a0_15, .int .i8 a0_16, .int .i8 a0_17, .int .i8 a0_18, .int .i8 a0_19, .int .i8 a0_20, .int .i8 a0_21, .int .i8 a0_22, .int .i8 a0_23, .int .i8 a0_24, .int .i8 a0_25, .int .i8 a0_26, .int .i8 a0_27, .slice A0_28 l0_28.length c0_28], .int .u8 a1] w fun e w' => e = .returned (.int .i64 r) ∧ Below w.heap.size w w' := by
  have hu32 := Tryd.underlying32
  have HR0_28 := Aside0.mk hr0_28
  have HC0_28 := Aside0.mk hc0_28
  clear hr0_28 hc0_28
  have HB := Aside0.mk (Below.refl w.heap.size w)
  have H : (if 0 ≤ ((a1 - 65) % 256) then (if ((a1 - 65) % 256) < 26 then (some (wrap64 (rd [a0_0, a0_1, a0_2, a0_3, a0_4, a0_5, a0_6, a0_7, a0_8, a0_9, a0_10, a0_11, a0_12, a0_13, a0_14, a0_15, a0_16, a0_17, a0_18, a0_19, a0_20, a0_21, a0_22, a0_23, a0_24, a0_25] ((a1 - 65) % 256)))) else (none)) else (none)) = some r := h
  clear h
  obtain ⟨ji3, hji3⟩ : ∃ j_ : Int, ((a1 - 65) % 256) = j_ := ⟨_, rfl⟩
  replace H : (if 0 ≤ (ji3) then (if (ji3) < 26 then (some (wrap64 (rd [a0_0, a0_1, a0_2, a0_3, a0_4, a0_5, a0_6, a0_7, a0_8, a0_9, a0_10, a0_11, a0_12, a0_13, a0_14, a0_15, a0_16, a0_17, a0_18, a0_19, a0_20, a0_21, a0_22, a0_23, a0_24, a0_25] (ji3)))) else (none)) else (none)) = some r := by first | (rw [hji3] at H; exact H) | (simp only [hji3] at H ⊢; exact H)
  by_cases c4 : 0 ≤ (ji3)
  · rw [if_pos c4] at H
    have c4b0 : decide (0 ≤ (ji3)) = true := decide_eq_true c4
    clear c4
    by_cases c5 : (ji3) < 26
    · rw [if_pos c5] at H
      have c5b0 : decide ((ji3) < 26) = true := decide_eq_true c5
      clear c5
      obtain rfl := Option.some.inj H
      go_enter Tryd.func86, Tryd.ntmps86
      go_wp2_with (first | ((with_reducible refine gate_dst (N := 2) rfl ?_); refine box_event ?hg (N := 2) ?hd (cs := #[.int .i8 a0_0, .int .i8 a0_1, .int .i8 a0_2, .int .i8 a0_3, .int .i8 a0_4, .int .i8 a0_5, .int .i8 a0_6, .int .i8 a0_7, .int .i8 a0_8, .int .i8 a0_9, .int .i8 a0_10, .int .i8 a0_11, .int .i8 a0_12, .int .i8 a0_13, .int .i8 a0_14, .int .i8 a0_15, .int .i8 a0_16, .int .i8 a0_17, .int .i8 a0_18, .int .i8 a0_19, .int .i8 a0_20, .int .i8 a0_21, .int .i8 a0_22, .int .i8 a0_23, .int .i8 a0_24, .int .i8 a0_25, .int .i8 a0_26, .int .i8 a0_27, .slice A0_28 l0_28.length c0_28]) (t := 32) ?hr ?_; (case hd => rfl); (case hg => rfl); (case hr => first | (go_simp; done) | (go_simp; rfl)); intro gb150 hg w6 hbox hb; have n0_ := Aside0.mk (below_step (by repeat (first | (with_reducible first | exact HB.out | apply below_alloc | apply pw_below_drewN | apply below_drew1) | exact HB.out)) hb); have n1_ := Aside0.mk (hbox); have n2_ := Aside0.mk ((by rw [hg]; exact (below_size (by repeat (first | (with_reducible first | exact HB.out | apply below_alloc | apply pw_below_drewN | apply below_drew1) | exact HB.out))) : w.heap.size ≤ gb150)); have n3_ := Aside0.mk ((by rw [hg]; exact (below_size (by repeat (first | (with_reducible first | exact HB.out | apply below_alloc | apply pw_below_drewN | apply below_drew1) | exact HB.out))) : w.heap.size ≤ gb150)); clear HB; have HB := n0_; have BK150 := n1_; have GW150 := n2_; have GE150 := n3_; clear n0_ n1_ n2_ n3_; clear hb hbox hg; have hcz7_26 : w6.cell? ⟨gb150, 26, none⟩ = some (.int .i8 a0_26) := (blk_cell BK150.out 26).trans rfl; have hcz7_27 : w6.cell? ⟨gb150, 27, none⟩ = some (.int .i8 a0_27) := (blk_cell BK150.out 27).trans rfl; have hcz7_28 : w6.cell? ⟨gb150, 28, none⟩ = some (.slice A0_28 l0_28.length c0_28) := (blk_cell BK150.out 28).trans rfl; have hfz7_26 := blk_frozen BK150.out 26; have hfz7_27 := blk_frozen BK150.out 27; have hfz7_28 := blk_frozen BK150.out 28; have hpx8 : 0 ≤ ((ji3) : Int) := (by first | omega | exact of_decide_eq_true (by first | (with_reducible assumption) | assumption)); have hqx8 : ((ji3) : Int) < (26 : Int) := (by first | omega | exact of_decide_eq_true (by first | (with_reducible assumption) | assumption)); have hcxx8 : w6.cell? ⟨gb150, ((ji3) : Int).toNat, none⟩ = some (.int .i8 (rd [a0_0, a0_1, a0_2, a0_3, a0_4, a0_5, a0_6, a0_7, a0_8, a0_9, a0_10, a0_11, a0_12, a0_13, a0_14, a0_15, a0_16, a0_17, a0_18, a0_19, a0_20, a0_21, a0_22, a0_23, a0_24, a0_25] (ji3))) := ((blk_cell BK150.out _).trans (arrx0_ .i8 [a0_0, a0_1, a0_2, a0_3, a0_4, a0_5, a0_6, a0_7, a0_8, a0_9, a0_10, a0_11, a0_12, a0_13, a0_14, a0_15, a0_16, a0_17, a0_18, a0_19, a0_20, a0_21, a0_22, a0_23, a0_24, a0_25] [.int .i8 a0_26, .int .i8 a0_27, .slice A0_28 l0_28.length c0_28] ((ji3) : Int) hpx8 hqx8)); replace hpx8 := eq_true hpx8; replace hqx8 := eq_true hqx8))
      go_ret
      exact ⟨by first | rfl | (simp [errW_none, errW_some] <;> rfl) | (simp only [← hji3]; first | rfl | (simp [errW_none, errW_some] <;> rfl)) | (simp [*, errW_none, errW_some] <;> rfl), by repeat (first | (with_reducible first | exact HB.out | apply below_alloc | apply pw_below_drewN | apply below_drew1 | refine below_set ?_ GE150.out) | exact HB.out)⟩
    · rw [if_neg c5] at H
      exact absurd H (by simp)
  · rw [if_neg c4] at H
    exact absurd H (by simp)
end Go.Proofs.YticjkfacdmmopaaDoor.Q
namespace Go.Proofs.YticjkfacdmmopaaDoor.Ext
end Go.Proofs.YticjkfacdmmopaaDoor.Ext
namespace Go.Proofs.YticjkfacdmmopaaDoor.Q
open Go.Proofs.YticjkfacdmmopaaDoor.Ext
open Go.RowKit Go.Proofs.YticjkfacdmmopaaDoorW.PrintWords Go.Proofs.YticjkfacdmmopaaDoorW.PrintLast Go.Proofs.YticjkfacdmmopaaDoorW.PrintMore
attribute [local go_sem] max2_int min2_int max_two min_two max_three min_three max_four min_four
set_option linter.unusedVariables false
set_option linter.unusedSimpArgs false
end Go.Proofs.YticjkfacdmmopaaDoor.Q
namespace Go.Proofs.YticjkfacdmmopaaDoor.Ext
end Go.Proofs.YticjkfacdmmopaaDoor.Ext
namespace Go.Proofs.YticjkfacdmmopaaDoor.Q
open Go.Proofs.YticjkfacdmmopaaDoor.Ext
open Go.RowKit Go.Proofs.YticjkfacdmmopaaDoorW.PrintWords Go.Proofs.YticjkfacdmmopaaDoorW.PrintLast Go.Proofs.YticjkfacdmmopaaDoorW.PrintMore
attribute [local go_sem] max2_int min2_int max_two min_two max_three min_three max_four min_four
set_option linter.unusedVariables false
set_option linter.unusedSimpArgs false
def laws_szPairS.f (l0 : List (S139)) (a1 : Int) : Option (Int) := if (wrap64 (a1 - (l0.length : Int))) < 0 then (some (-1)) else (some (wrap64 (a1 - (l0.length : Int))))
set_option maxHeartbeats 8000000 in
set_option maxRecDepth 100000 in
theorem laws_szPairS.calls (A0 : Option Addr) (c0 : Nat) (l0 : List (S139)) (a1 : Int) (r : Int) (w : World) (hr0 : Kd.C k139 w A0 l0.length l0) (hc0 : l0.length ≤ c0) (h : laws_szPairS.f l0 a1 = some r) :
    Calls Tryd.prog 61 #[.slice A0 l0.length c0, .int .i64 a1] w fun e w' => e = .returned (.int .i64 r) ∧ Drawn0 w w' := by
  have HR0 := Aside0.mk hr0
  have HC0 := Aside0.mk hc0
  clear hr0 hc0
  have H : (if (wrap64 (a1 - (l0.length : Int))) < 0 then (some (-1)) else (some (wrap64 (a1 - (l0.length : Int))))) = some r := h
  clear h
  by_cases c3 : (wrap64 (a1 - (l0.length : Int))) < 0
  · rw [if_pos c3] at H
    have c3b0 : decide ((wrap64 (a1 - (l0.length : Int))) < 0) = true := decide_eq_true c3
    clear c3
    obtain rfl := Option.some.inj H
    go_enter Tryd.func61, Tryd.ntmps61
    go_wp2
    go_ret
    exact ⟨by first | rfl | (simp; done) | (simp [*]; done), by repeat (first | exact Drawn0.refl _ | apply Drawn0.step)⟩
  · rw [if_neg c3] at H
    have c3b0 : decide ((wrap64 (a1 - (l0.length : Int))) < 0) = false := decide_eq_false c3
    clear c3
    obtain rfl := Option.some.inj H
    go_enter Tryd.func61, Tryd.ntmps61
    go_wp2
    go_ret
    exact ⟨by first | rfl | (simp; done) | (simp [*]; done), by repeat (first | exact Drawn0.refl _ | apply Drawn0.step)⟩
def laws_szFace.f (a0_0 a0_1 a0_2 a0_3 a0_4 a0_5 a0_6 a0_7 a0_8 a0_9 a0_10 a0_11 a0_12 a0_13 a0_14 a0_15 a0_16 a0_17 a0_18 a0_19 a0_20 a0_21 a0_22 a0_23 a0_24 a0_25 a0_26 a0_27 : Int) (l0_28 : List (S139)) (a1 : Int) : Option (Int) := (laws_szPairS.f l0_28 a1).bind fun t102 => (if t102 < 0 then (some (-1)) else (some t102))
set_option maxHeartbeats 8000000 in
set_option maxRecDepth 100000 in
theorem laws_szFace.calls (a0_0 a0_1 a0_2 a0_3 a0_4 a0_5 a0_6 a0_7 a0_8 a0_9 a0_10 a0_11 a0_12 a0_13 a0_14 a0_15 a0_16 a0_17 a0_18 a0_19 a0_20 a0_21 a0_22 a0_23 a0_24 a0_25 a0_26 a0_27 : Int) (A0_28 : Option Addr) (c0_28 : Nat) (l0_28 : List (S139)) (a1 : Int) (r : Int) (w : World) (hr0_28 : Kd.C k139 w A0_28 l0_28.length l0_28) (hc0_28 : l0_28.length ≤ c0_28) (h : laws_szFace.f a0_0 a0_1 a0_2 a0_3 a0_4 a0_5 a0_6 a0_7 a0_8 a0_9 a0_10 a0_11 a0_12 a0_13 a0_14 a0_15 a0_16 a0_17 a0_18 a0_19 a0_20 a0_21 a0_22 a0_23 a0_24 a0_25 a0_26 a0_27 l0_28 a1 = some r) :
    Calls Tryd.prog 18 #[.agg #[.int .i8 a0_0, .int .i8 a0_1, .int .i8 a0_2, .int .i8 a0_3, .int .i8 a0_4, .int .i8 a0_5, .int .i8 a0_6, .int .i8 a0_7, .int .i8 a0_8, .int .i8 a0_9, .int .i8 a0_10, .int .i8 a0_11, .int .i8 a0_12, .int .i8 a0_13, .int .i8 a0_14, .int .i8 a0_15, .int .i8 a0_16, .int .i8 a0_17, .int .i8 a0_18, .int .i8 a0_19, .int .i8 a0_20, .int .i8 a0_21, .int .i8 a0_22, .int .i8 a0_23, .int .i8 a0_24, .int .i8 a0_25, .int .i8 a0_26, .int .i8 a0_27, .slice A0_28 l0_28.length c0_28], .int .i64 a1] w fun e w' => e = .returned (.int .i64 r) ∧ Below w.heap.size w w' := by
  have hu26 := Tryd.underlying26
  have HR0_28 := Aside0.mk hr0_28
  have HC0_28 := Aside0.mk hc0_28
  clear hr0_28 hc0_28
  have HB := Aside0.mk (Below.refl w.heap.size w)
  have H : ((laws_szPairS.f l0_28 a1).bind fun t102 => (if t102 < 0 then (some (-1)) else (some t102))) = some r := h
  clear h
  replace H := Option.bind_eq_some_iff.mp H
  obtain ⟨t102, A30, H⟩ := H
  replace H : (if t102 < 0 then (some (-1)) else (some t102)) = some r := H
  have A3 := Aside0.mk A30
  clear A30
  by_cases c4 : t102 < 0
  · rw [if_pos c4] at H
    have c4b0 : decide (t102 < 0) = true := decide_eq_true c4
    clear c4
    obtain rfl := Option.some.inj H
    go_enter Tryd.func18, Tryd.ntmps18
    go_wp2_with (first | ((with_reducible refine gate_dst (N := 2) rfl ?_); refine box_event ?hg (N := 2) ?hd (cs := #[.int .i8 a0_0, .int .i8 a0_1, .int .i8 a0_2, .int .i8 a0_3, .int .i8 a0_4, .int .i8 a0_5, .int .i8 a0_6, .int .i8 a0_7, .int .i8 a0_8, .int .i8 a0_9, .int .i8 a0_10, .int .i8 a0_11, .int .i8 a0_12, .int .i8 a0_13, .int .i8 a0_14, .int .i8 a0_15, .int .i8 a0_16, .int .i8 a0_17, .int .i8 a0_18, .int .i8 a0_19, .int .i8 a0_20, .int .i8 a0_21, .int .i8 a0_22, .int .i8 a0_23, .int .i8 a0_24, .int .i8 a0_25, .int .i8 a0_26, .int .i8 a0_27, .slice A0_28 l0_28.length c0_28]) (t := 26) ?hr ?_; (case hd => rfl); (case hg => rfl); (case hr => first | (go_simp; done) | (go_simp; rfl)); intro gb101 hg w5 hbox hb; have n0_ := Aside0.mk (below_step (by repeat (first | (with_reducible first | exact HB.out | apply below_alloc | apply pw_below_drewN | apply below_drew1) | exact HB.out)) hb); have n1_ := Aside0.mk (hbox); have n2_ := Aside0.mk ((by rw [hg]; exact (below_size (by repeat (first | (with_reducible first | exact HB.out | apply below_alloc | apply pw_below_drewN | apply below_drew1) | exact HB.out))) : w.heap.size ≤ gb101)); have n3_ := Aside0.mk ((by rw [hg]; exact (below_size (by repeat (first | (with_reducible first | exact HB.out | apply below_alloc | apply pw_below_drewN | apply below_drew1) | exact HB.out))) : w.heap.size ≤ gb101)); clear HB; have HB := n0_; have BK101 := n1_; have GW101 := n2_; have GE101 := n3_; clear n0_ n1_ n2_ n3_; clear hb hbox hg; have hcz6_26 : w5.cell? ⟨gb101, 26, none⟩ = some (.int .i8 a0_26) := (blk_cell BK101.out 26).trans rfl; have hcz6_27 : w5.cell? ⟨gb101, 27, none⟩ = some (.int .i8 a0_27) := (blk_cell BK101.out 27).trans rfl; have hcz6_28 : w5.cell? ⟨gb101, 28, none⟩ = some (.slice A0_28 l0_28.length c0_28) := (blk_cell BK101.out 28).trans rfl; have hfz6_26 := blk_frozen BK101.out 26; have hfz6_27 := blk_frozen BK101.out 27; have hfz6_28 := blk_frozen BK101.out 28) | ((with_reducible refine gate_callee (f := 61) rfl ?_); refine goesL_ (some 8) rfl rfl Tryd.func61 (by kernel_rfl) rfl #[.slice A0_28 l0_28.length c0_28, .int .i64 a1] rfl (by (try simp only [List.map_toArray, List.map_cons, List.map_nil]); first | done | rfl | (simp only [List.length_drop, List.length_take]; rfl)) ?_; (with_reducible refine (laws_szPairS.calls _ _ l0_28 a1 t102 _ ?side1 ?side2 A3.out).mono ?_); (case side1 => repeat (first | exact (Kd.C_below HR0_28.out HB.out) | (with_reducible refine Kd.C_alloc ?_ _) | (with_reducible refine Kd.C_drewN ?_ _) | (with_reducible refine Kd.C_drew ?_))); (case side2 => exact HC0_28.out); rintro e w' ⟨rfl, ⟨nd, rfl⟩⟩; refine ⟨_, rfl, ?_⟩))
    go_ret
    exact ⟨by first | rfl | (simp [errW_none, errW_some] <;> rfl) | (simp [*, errW_none, errW_some] <;> rfl), by repeat (first | (with_reducible first | exact HB.out | apply below_alloc | apply pw_below_drewN | apply below_drew1 | refine below_set ?_ GE101.out) | exact HB.out)⟩
  · rw [if_neg c4] at H
    have c4b0 : decide (t102 < 0) = false := decide_eq_false c4
    clear c4
    obtain rfl := Option.some.inj H
    go_enter Tryd.func18, Tryd.ntmps18
    go_wp2_with (first | ((with_reducible refine gate_dst (N := 2) rfl ?_); refine box_event ?hg (N := 2) ?hd (cs := #[.int .i8 a0_0, .int .i8 a0_1, .int .i8 a0_2, .int .i8 a0_3, .int .i8 a0_4, .int .i8 a0_5, .int .i8 a0_6, .int .i8 a0_7, .int .i8 a0_8, .int .i8 a0_9, .int .i8 a0_10, .int .i8 a0_11, .int .i8 a0_12, .int .i8 a0_13, .int .i8 a0_14, .int .i8 a0_15, .int .i8 a0_16, .int .i8 a0_17, .int .i8 a0_18, .int .i8 a0_19, .int .i8 a0_20, .int .i8 a0_21, .int .i8 a0_22, .int .i8 a0_23, .int .i8 a0_24, .int .i8 a0_25, .int .i8 a0_26, .int .i8 a0_27, .slice A0_28 l0_28.length c0_28]) (t := 26) ?hr ?_; (case hd => rfl); (case hg => rfl); (case hr => first | (go_simp; done) | (go_simp; rfl)); intro gb101 hg w7 hbox hb; have n0_ := Aside0.mk (below_step (by repeat (first | (with_reducible first | exact HB.out | apply below_alloc | apply pw_below_drewN | apply below_drew1) | exact HB.out)) hb); have n1_ := Aside0.mk (hbox); have n2_ := Aside0.mk ((by rw [hg]; exact (below_size (by repeat (first | (with_reducible first | exact HB.out | apply below_alloc | apply pw_below_drewN | apply below_drew1) | exact HB.out))) : w.heap.size ≤ gb101)); have n3_ := Aside0.mk ((by rw [hg]; exact (below_size (by repeat (first | (with_reducible first | exact HB.out | apply below_alloc | apply pw_below_drewN | apply below_drew1) | exact HB.out))) : w.heap.size ≤ gb101)); clear HB; have HB := n0_; have BK101 := n1_; have GW101 := n2_; have GE101 := n3_; clear n0_ n1_ n2_ n3_; clear hb hbox hg; have hcz8_26 : w7.cell? ⟨gb101, 26, none⟩ = some (.int .i8 a0_26) := (blk_cell BK101.out 26).trans rfl; have hcz8_27 : w7.cell? ⟨gb101, 27, none⟩ = some (.int .i8 a0_27) := (blk_cell BK101.out 27).trans rfl; have hcz8_28 : w7.cell? ⟨gb101, 28, none⟩ = some (.slice A0_28 l0_28.length c0_28) := (blk_cell BK101.out 28).trans rfl; have hfz8_26 := blk_frozen BK101.out 26; have hfz8_27 := blk_frozen BK101.out 27; have hfz8_28 := blk_frozen BK101.out 28) | ((with_reducible refine gate_callee (f := 61) rfl ?_); refine goesL_ (some 8) rfl rfl Tryd.func61 (by kernel_rfl) rfl #[.slice A0_28 l0_28.length c0_28, .int .i64 a1] rfl (by (try simp only [List.map_toArray, List.map_cons, List.map_nil]); first | done | rfl | (simp only [List.length_drop, List.length_take]; rfl)) ?_; (with_reducible refine (laws_szPairS.calls _ _ l0_28 a1 t102 _ ?side1 ?side2 A3.out).mono ?_); (case side1 => repeat (first | exact (Kd.C_below HR0_28.out HB.out) | (with_reducible refine Kd.C_alloc ?_ _) | (with_reducible refine Kd.C_drewN ?_ _) | (with_reducible refine Kd.C_drew ?_))); (case side2 => exact HC0_28.out); rintro e w' ⟨rfl, ⟨nd, rfl⟩⟩; refine ⟨_, rfl, ?_⟩))
    go_ret
    exact ⟨by first | rfl | (simp [errW_none, errW_some] <;> rfl) | (simp [*, errW_none, errW_some] <;> rfl), by repeat (first | (with_reducible first | exact HB.out | apply below_alloc | apply pw_below_drewN | apply below_drew1 | refine below_set ?_ GE101.out) | exact HB.out)⟩
def spec_l01Letter.f (a0 : Int) : Option (Bool) := if a0 ≥ 65 then (some (decide (a0 ≤ 90))) else (some false)
set_option maxHeartbeats 8000000 in
set_option maxRecDepth 100000 in
theorem spec_l01Letter.calls (a0 : Int) (r : Bool) (w : World) (h : spec_l01Letter.f a0 = some r) :
    Calls Tryd.prog 118 #[.int .u8 a0] w fun e w' => e = .returned (.bool r) ∧ Drawn0 w w' := by
  have H : (if a0 ≥ 65 then (some (decide (a0 ≤ 90))) else (some false)) = some r := h
  clear h
  by_cases c2 : a0 ≥ 65
  · rw [if_pos c2] at H
    have c2b0 : decide (65 ≤ a0) = true := decide_eq_true c2
    clear c2
    obtain rfl := Option.some.inj H
    go_enter Tryd.func118, Tryd.ntmps118
    go_wp2
    go_ret
    exact ⟨by first | rfl | (simp; done) | (simp [*]; done), by repeat (first | exact Drawn0.refl _ | apply Drawn0.step)⟩
  · rw [if_neg c2] at H
    have c2b0 : decide (65 ≤ a0) = false := decide_eq_false c2
    clear c2
    obtain rfl := Option.some.inj H
    go_enter Tryd.func118, Tryd.ntmps118
    go_wp2
    go_ret
    exact ⟨by first | rfl | (simp; done) | (simp [*]; done), by repeat (first | exact Drawn0.refl _ | apply Drawn0.step)⟩
def spec_l01Ahead.f (a0_0 a0_1 a0_2 a1_0 a1_1 a1_2 : Int) : Option (Bool) := if a0_0 < a1_0 then (some true) else (if a0_0 = a1_0 then (some (decide (a0_1 < a1_1))) else (some false))
set_option maxHeartbeats 8000000 in
set_option maxRecDepth 100000 in
theorem spec_l01Ahead.calls (a0_0 a0_1 a0_2 a1_0 a1_1 a1_2 : Int) (r : Bool) (w : World) (h : spec_l01Ahead.f a0_0 a0_1 a0_2 a1_0 a1_1 a1_2 = some r) :
    Calls Tryd.prog 149 #[.agg #[.int .u8 a0_0, .int .u8 a0_1, .int .i8 a0_2], .agg #[.int .u8 a1_0, .int .u8 a1_1, .int .i8 a1_2]] w fun e w' => e = .returned (.bool r) ∧ Below w.heap.size w w' := by
  have hu137 := Tryd.underlying137
  have HB := Aside0.mk (Below.refl w.heap.size w)
  have H : (if a0_0 < a1_0 then (some true) else (if a0_0 = a1_0 then (some (decide (a0_1 < a1_1))) else (some false))) = some r := h
  clear h
  by_cases c3 : a0_0 < a1_0
  · rw [if_pos c3] at H
    have c3b0 : decide (a0_0 < a1_0) = true := decide_eq_true c3
    clear c3
    obtain rfl := Option.some.inj H
    go_enter Tryd.func149, Tryd.ntmps149
    go_wp2_with (first | ((with_reducible refine gate_dst (N := 2) rfl ?_); refine box_event ?hg (N := 2) ?hd (cs := #[.int .u8 a0_0, .int .u8 a0_1, .int .i8 a0_2]) (t := 137) ?hr ?_; (case hd => rfl); (case hg => rfl); (case hr => first | (go_simp; done) | (go_simp; rfl)); intro gb103 hg w4 hbox hb; have n0_ := Aside0.mk (below_step (by repeat (first | (with_reducible first | exact HB.out | apply below_alloc | apply pw_below_drewN | apply below_drew1) | exact HB.out)) hb); have n1_ := Aside0.mk (hbox); have n2_ := Aside0.mk ((by rw [hg]; exact (below_size (by repeat (first | (with_reducible first | exact HB.out | apply below_alloc | apply pw_below_drewN | apply below_drew1) | exact HB.out))) : w.heap.size ≤ gb103)); have n3_ := Aside0.mk ((by rw [hg]; exact (below_size (by repeat (first | (with_reducible first | exact HB.out | apply below_alloc | apply pw_below_drewN | apply below_drew1) | exact HB.out))) : w.heap.size ≤ gb103)); clear HB; have HB := n0_; have BK103 := n1_; have GW103 := n2_; have GE103 := n3_; clear n0_ n1_ n2_ n3_; clear hb hbox hg) | ((with_reducible refine gate_dst (N := 3) rfl ?_); refine box_event ?hg (N := 3) ?hd (cs := #[.int .u8 a1_0, .int .u8 a1_1, .int .i8 a1_2]) (t := 137) ?hr ?_; (case hd => rfl); (case hg => rfl); (case hr => first | (go_simp; done) | (go_simp; rfl)); intro gb104 hg w5 hbox hb; have n0_ := Aside0.mk (blk_below (g := gb103) (o := .cells #[.int .u8 a0_0, .int .u8 a0_1, .int .i8 a0_2] 137 (0, 0)) (by (with_reducible repeat (first | refine blk_drewN ?_ _ | refine blk_drew ?_ | refine blk_alloc ?_ _)); exact BK103.out) hb); have n1_ := Aside0.mk (below_step (by repeat (first | (with_reducible first | exact HB.out | apply below_alloc | apply pw_below_drewN | apply below_drew1 | refine below_set ?_ GE103.out) | exact HB.out)) hb); have n2_ := Aside0.mk (hbox); have n3_ := Aside0.mk ((by rw [hg]; exact (below_size (by repeat (first | (with_reducible first | exact HB.out | apply below_alloc | apply pw_below_drewN | apply below_drew1 | refine below_set ?_ GE103.out) | exact HB.out))) : w.heap.size ≤ gb104)); have n4_ := Aside0.mk ((by rw [hg]; exact (below_size (by repeat (first | (with_reducible first | exact HB.out | apply below_alloc | apply pw_below_drewN | apply below_drew1 | refine below_set ?_ GE103.out) | exact HB.out))) : w.heap.size ≤ gb104)); have n5_ := Aside0.mk ((by rw [hg]; exact Nat.ne_of_lt (blk_lt (g := gb103) (o := .cells #[.int .u8 a0_0, .int .u8 a0_1, .int .i8 a0_2] 137 (0, 0)) (by (with_reducible repeat (first | refine blk_drewN ?_ _ | refine blk_drew ?_ | refine blk_alloc ?_ _)); exact BK103.out)) : gb103 ≠ gb104)); have n6_ := Aside0.mk ((by rw [hg]; exact Nat.ne_of_gt (blk_lt (g := gb103) (o := .cells #[.int .u8 a0_0, .int .u8 a0_1, .int .i8 a0_2] 137 (0, 0)) (by (with_reducible repeat (first | refine blk_drewN ?_ _ | refine blk_drew ?_ | refine blk_alloc ?_ _)); exact BK103.out)) : gb104 ≠ gb103)); clear BK103; clear HB; have BK103 := n0_; have HB := n1_; have BK104 := n2_; have GW104 := n3_; have GE104 := n4_; have NB103_104 := n5_; have NB104_103 := n6_; clear n0_ n1_ n2_ n3_ n4_ n5_ n6_; clear hb hbox hg; have hnb6 := NB103_104.out; have hnc6 := NB104_103.out; have hcz7_0 : w5.cell? ⟨gb103, 0, none⟩ = some (.int .u8 a0_0) := (blk_cell BK103.out 0).trans rfl; have hcz7_1 : w5.cell? ⟨gb103, 1, none⟩ = some (.int .u8 a0_1) := (blk_cell BK103.out 1).trans rfl; have hcz7_2 : w5.cell? ⟨gb103, 2, none⟩ = some (.int .i8 a0_2) := (blk_cell BK103.out 2).trans rfl; have hfz7_0 := blk_frozen BK103.out 0; have hfz7_1 := blk_frozen BK103.out 1; have hfz7_2 := blk_frozen BK103.out 2; have hcz8_0 : w5.cell? ⟨gb104, 0, none⟩ = some (.int .u8 a1_0) := (blk_cell BK104.out 0).trans rfl; have hcz8_1 : w5.cell? ⟨gb104, 1, none⟩ = some (.int .u8 a1_1) := (blk_cell BK104.out 1).trans rfl; have hcz8_2 : w5.cell? ⟨gb104, 2, none⟩ = some (.int .i8 a1_2) := (blk_cell BK104.out 2).trans rfl; have hfz8_0 := blk_frozen BK104.out 0; have hfz8_1 := blk_frozen BK104.out 1; have hfz8_2 := blk_frozen BK104.out 2))
    go_ret
    exact ⟨by first | rfl | (simp [errW_none, errW_some] <;> rfl) | (simp [*, errW_none, errW_some] <;> rfl), by repeat (first | (with_reducible first | exact HB.out | apply below_alloc | apply pw_below_drewN | apply below_drew1 | refine below_set ?_ GE103.out | refine below_set ?_ GE104.out) | exact HB.out)⟩
  · rw [if_neg c3] at H
    have c3b0 : decide (a0_0 < a1_0) = false := decide_eq_false c3
    clear c3
    by_cases c9 : a0_0 = a1_0
    · rw [if_pos c9] at H
      have c9b0 : (a0_0 == a1_0) = true := beq_iff_eq.mpr c9
      have c9b1 : (a0_0 != a1_0) = false := bne_eq_false_iff_eq.mpr c9
      clear c9
      obtain rfl := Option.some.inj H
      go_enter Tryd.func149, Tryd.ntmps149
      go_wp2_with (first | ((with_reducible refine gate_dst (N := 2) rfl ?_); refine box_event ?hg (N := 2) ?hd (cs := #[.int .u8 a0_0, .int .u8 a0_1, .int .i8 a0_2]) (t := 137) ?hr ?_; (case hd => rfl); (case hg => rfl); (case hr => first | (go_simp; done) | (go_simp; rfl)); intro gb103 hg w10 hbox hb; have n0_ := Aside0.mk (below_step (by repeat (first | (with_reducible first | exact HB.out | apply below_alloc | apply pw_below_drewN | apply below_drew1) | exact HB.out)) hb); have n1_ := Aside0.mk (hbox); have n2_ := Aside0.mk ((by rw [hg]; exact (below_size (by repeat (first | (with_reducible first | exact HB.out | apply below_alloc | apply pw_below_drewN | apply below_drew1) | exact HB.out))) : w.heap.size ≤ gb103)); have n3_ := Aside0.mk ((by rw [hg]; exact (below_size (by repeat (first | (with_reducible first | exact HB.out | apply below_alloc | apply pw_below_drewN | apply below_drew1) | exact HB.out))) : w.heap.size ≤ gb103)); clear HB; have HB := n0_; have BK103 := n1_; have GW103 := n2_; have GE103 := n3_; clear n0_ n1_ n2_ n3_; clear hb hbox hg) | ((with_reducible refine gate_dst (N := 3) rfl ?_); refine box_event ?hg (N := 3) ?hd (cs := #[.int .u8 a1_0, .int .u8 a1_1, .int .i8 a1_2]) (t := 137) ?hr ?_; (case hd => rfl); (case hg => rfl); (case hr => first | (go_simp; done) | (go_simp; rfl)); intro gb104 hg w11 hbox hb; have n0_ := Aside0.mk (blk_below (g := gb103) (o := .cells #[.int .u8 a0_0, .int .u8 a0_1, .int .i8 a0_2] 137 (0, 0)) (by (with_reducible repeat (first | refine blk_drewN ?_ _ | refine blk_drew ?_ | refine blk_alloc ?_ _)); exact BK103.out) hb); have n1_ := Aside0.mk (below_step (by repeat (first | (with_reducible first | exact HB.out | apply below_alloc | apply pw_below_drewN | apply below_drew1 | refine below_set ?_ GE103.out) | exact HB.out)) hb); have n2_ := Aside0.mk (hbox); have n3_ := Aside0.mk ((by rw [hg]; exact (below_size (by repeat (first | (with_reducible first | exact HB.out | apply below_alloc | apply pw_below_drewN | apply below_drew1 | refine below_set ?_ GE103.out) | exact HB.out))) : w.heap.size ≤ gb104)); have n4_ := Aside0.mk ((by rw [hg]; exact (below_size (by repeat (first | (with_reducible first | exact HB.out | apply below_alloc | apply pw_below_drewN | apply below_drew1 | refine below_set ?_ GE103.out) | exact HB.out))) : w.heap.size ≤ gb104)); have n5_ := Aside0.mk ((by rw [hg]; exact Nat.ne_of_lt (blk_lt (g := gb103) (o := .cells #[.int .u8 a0_0, .int .u8 a0_1, .int .i8 a0_2] 137 (0, 0)) (by (with_reducible repeat (first | refine blk_drewN ?_ _ | refine blk_drew ?_ | refine blk_alloc ?_ _)); exact BK103.out)) : gb103 ≠ gb104)); have n6_ := Aside0.mk ((by rw [hg]; exact Nat.ne_of_gt (blk_lt (g := gb103) (o := .cells #[.int .u8 a0_0, .int .u8 a0_1, .int .i8 a0_2] 137 (0, 0)) (by (with_reducible repeat (first | refine blk_drewN ?_ _ | refine blk_drew ?_ | refine blk_alloc ?_ _)); exact BK103.out)) : gb104 ≠ gb103)); clear BK103; clear HB; have BK103 := n0_; have HB := n1_; have BK104 := n2_; have GW104 := n3_; have GE104 := n4_; have NB103_104 := n5_; have NB104_103 := n6_; clear n0_ n1_ n2_ n3_ n4_ n5_ n6_; clear hb hbox hg; have hnb12 := NB103_104.out; have hnc12 := NB104_103.out; have hcz13_0 : w11.cell? ⟨gb103, 0, none⟩ = some (.int .u8 a0_0) := (blk_cell BK103.out 0).trans rfl; have hcz13_1 : w11.cell? ⟨gb103, 1, none⟩ = some (.int .u8 a0_1) := (blk_cell BK103.out 1).trans rfl; have hcz13_2 : w11.cell? ⟨gb103, 2, none⟩ = some (.int .i8 a0_2) := (blk_cell BK103.out 2).trans rfl; have hfz13_0 := blk_frozen BK103.out 0; have hfz13_1 := blk_frozen BK103.out 1; have hfz13_2 := blk_frozen BK103.out 2; have hcz14_0 : w11.cell? ⟨gb104, 0, none⟩ = some (.int .u8 a1_0) := (blk_cell BK104.out 0).trans rfl; have hcz14_1 : w11.cell? ⟨gb104, 1, none⟩ = some (.int .u8 a1_1) := (blk_cell BK104.out 1).trans rfl; have hcz14_2 : w11.cell? ⟨gb104, 2, none⟩ = some (.int .i8 a1_2) := (blk_cell BK104.out 2).trans rfl; have hfz14_0 := blk_frozen BK104.out 0; have hfz14_1 := blk_frozen BK104.out 1; have hfz14_2 := blk_frozen BK104.out 2))
      go_ret
      exact ⟨by first | rfl | (simp [errW_none, errW_some] <;> rfl) | (simp [*, errW_none, errW_some] <;> rfl), by repeat (first | (with_reducible first | exact HB.out | apply below_alloc | apply pw_below_drewN | apply below_drew1 | refine below_set ?_ GE103.out | refine below_set ?_ GE104.out) | exact HB.out)⟩
    · rw [if_neg c9] at H
      have c9b0 : (a0_0 == a1_0) = false := beq_eq_false_iff_ne.mpr c9
      have c9b1 : (a0_0 != a1_0) = true := bne_iff_ne.mpr c9
      obtain rfl := Option.some.inj H
      go_enter Tryd.func149, Tryd.ntmps149
      go_wp2_with (first | ((with_reducible refine gate_dst (N := 2) rfl ?_); refine box_event ?hg (N := 2) ?hd (cs := #[.int .u8 a0_0, .int .u8 a0_1, .int .i8 a0_2]) (t := 137) ?hr ?_; (case hd => rfl); (case hg => rfl); (case hr => first | (go_simp; done) | (go_simp; rfl)); intro gb103 hg w15 hbox hb; have n0_ := Aside0.mk (below_step (by repeat (first | (with_reducible first | exact HB.out | apply below_alloc | apply pw_below_drewN | apply below_drew1) | exact HB.out)) hb); have n1_ := Aside0.mk (hbox); have n2_ := Aside0.mk ((by rw [hg]; exact (below_size (by repeat (first | (with_reducible first | exact HB.out | apply below_alloc | apply pw_below_drewN | apply below_drew1) | exact HB.out))) : w.heap.size ≤ gb103)); have n3_ := Aside0.mk ((by rw [hg]; exact (below_size (by repeat (first | (with_reducible first | exact HB.out | apply below_alloc | apply pw_below_drewN | apply below_drew1) | exact HB.out))) : w.heap.size ≤ gb103)); clear HB; have HB := n0_; have BK103 := n1_; have GW103 := n2_; have GE103 := n3_; clear n0_ n1_ n2_ n3_; clear hb hbox hg) | ((with_reducible refine gate_dst (N := 3) rfl ?_); refine box_event ?hg (N := 3) ?hd (cs := #[.int .u8 a1_0, .int .u8 a1_1, .int .i8 a1_2]) (t := 137) ?hr ?_; (case hd => rfl); (case hg => rfl); (case hr => first | (go_simp; done) | (go_simp; rfl)); intro gb104 hg w16 hbox hb; have n0_ := Aside0.mk (blk_below (g := gb103) (o := .cells #[.int .u8 a0_0, .int .u8 a0_1, .int .i8 a0_2] 137 (0, 0)) (by (with_reducible repeat (first | refine blk_drewN ?_ _ | refine blk_drew ?_ | refine blk_alloc ?_ _)); exact BK103.out) hb); have n1_ := Aside0.mk (below_step (by repeat (first | (with_reducible first | exact HB.out | apply below_alloc | apply pw_below_drewN | apply below_drew1 | refine below_set ?_ GE103.out) | exact HB.out)) hb); have n2_ := Aside0.mk (hbox); have n3_ := Aside0.mk ((by rw [hg]; exact (below_size (by repeat (first | (with_reducible first | exact HB.out | apply below_alloc | apply pw_below_drewN | apply below_drew1 | refine below_set ?_ GE103.out) | exact HB.out))) : w.heap.size ≤ gb104)); have n4_ := Aside0.mk ((by rw [hg]; exact (below_size (by repeat (first | (with_reducible first | exact HB.out | apply below_alloc | apply pw_below_drewN | apply below_drew1 | refine below_set ?_ GE103.out) | exact HB.out))) : w.heap.size ≤ gb104)); have n5_ := Aside0.mk ((by rw [hg]; exact Nat.ne_of_lt (blk_lt (g := gb103) (o := .cells #[.int .u8 a0_0, .int .u8 a0_1, .int .i8 a0_2] 137 (0, 0)) (by (with_reducible repeat (first | refine blk_drewN ?_ _ | refine blk_drew ?_ | refine blk_alloc ?_ _)); exact BK103.out)) : gb103 ≠ gb104)); have n6_ := Aside0.mk ((by rw [hg]; exact Nat.ne_of_gt (blk_lt (g := gb103) (o := .cells #[.int .u8 a0_0, .int .u8 a0_1, .int .i8 a0_2] 137 (0, 0)) (by (with_reducible repeat (first | refine blk_drewN ?_ _ | refine blk_drew ?_ | refine blk_alloc ?_ _)); exact BK103.out)) : gb104 ≠ gb103)); clear BK103; clear HB; have BK103 := n0_; have HB := n1_; have BK104 := n2_; have GW104 := n3_; have GE104 := n4_; have NB103_104 := n5_; have NB104_103 := n6_; clear n0_ n1_ n2_ n3_ n4_ n5_ n6_; clear hb hbox hg; have hnb17 := NB103_104.out; have hnc17 := NB104_103.out; have hcz18_0 : w16.cell? ⟨gb103, 0, none⟩ = some (.int .u8 a0_0) := (blk_cell BK103.out 0).trans rfl; have hcz18_1 : w16.cell? ⟨gb103, 1, none⟩ = some (.int .u8 a0_1) := (blk_cell BK103.out 1).trans rfl; have hcz18_2 : w16.cell? ⟨gb103, 2, none⟩ = some (.int .i8 a0_2) := (blk_cell BK103.out 2).trans rfl; have hfz18_0 := blk_frozen BK103.out 0; have hfz18_1 := blk_frozen BK103.out 1; have hfz18_2 := blk_frozen BK103.out 2; have hcz19_0 : w16.cell? ⟨gb104, 0, none⟩ = some (.int .u8 a1_0) := (blk_cell BK104.out 0).trans rfl; have hcz19_1 : w16.cell? ⟨gb104, 1, none⟩ = some (.int .u8 a1_1) := (blk_cell BK104.out 1).trans rfl; have hcz19_2 : w16.cell? ⟨gb104, 2, none⟩ = some (.int .i8 a1_2) := (blk_cell BK104.out 2).trans rfl; have hfz19_0 := blk_frozen BK104.out 0; have hfz19_1 := blk_frozen BK104.out 1; have hfz19_2 := blk_frozen BK104.out 2))
      go_ret
      exact ⟨by first | rfl | (simp [errW_none, errW_some] <;> rfl) | (simp [*, errW_none, errW_some] <;> rfl), by repeat (first | (with_reducible first | exact HB.out | apply below_alloc | apply pw_below_drewN | apply below_drew1 | refine below_set ?_ GE103.out | refine below_set ?_ GE104.out) | exact HB.out)⟩
end Go.Proofs.YticjkfacdmmopaaDoor.Q
namespace Go.Proofs.YticjkfacdmmopaaDoor.Txt
open Go
set_option linter.unusedVariables false
set_option linter.unusedSimpArgs false
def okB (b : UInt8) : Bool := (decide (65 ≤ b.toNat) && decide (b.toNat ≤ 90)) || b == 32
def noTwo : List UInt8 → Bool
  | a :: b :: l => !(a == 32 && b == 32) && noTwo (b :: l)
  | _ => true
def txt (l : List UInt8) : Bool := decide (l.length ≤ 60) && (l.all okB && noTwo l) && (l.head? != some 32 && l.getLast? != some 32)
theorem contains_two : ∀ l : List UInt8, Lib.contains l [32, 32] = !(noTwo l)
  | [] => rfl
  | [a] => by simp [Lib.contains, Lib.index, noTwo, List.isPrefixOf]
  | a :: b :: l => by
    have ih := contains_two (b :: l)
    unfold Lib.contains at ih ⊢
    rw [Lib.index]
    by_cases h : (a == 32 && b == 32) = true
    · have h' := h
      simp only [Bool.and_eq_true, beq_iff_eq] at h'
      obtain ⟨rfl, rfl⟩ := h'
      simp [noTwo, List.isPrefixOf]
    · have hp : ([32, 32] : List UInt8).isPrefixOf (a :: b :: l) = false := by
        rw [Bool.eq_false_iff]
        intro hp
        apply h
        simp [List.isPrefixOf] at hp
        simp [← hp.1, ← hp.2]
      have h0 : (a == 32 && b == 32) = false := by simpa using h
      rw [hp]
      have hge := Lib.index_ge (b :: l) [32, 32]
      simp only [Bool.false_eq_true, if_false, noTwo, h0, Bool.not_false, Bool.true_and]
      rw [← ih]
      by_cases hm : Lib.index (b :: l) [32, 32] = -1
      · rw [hm]; rfl
      · have : ¬ (Lib.index (b :: l) [32, 32] == -1) = true := by rw [beq_iff_eq]; exact hm
        rw [if_neg this]
        have h1 : 0 ≤ Lib.index (b :: l) [32, 32] := by omega
        simp [h1]; omega
theorem trim_eq_iff (l : List UInt8) : Lib.trimB l 32 = l ↔ l.head? ≠ some 32 ∧ l.getLast? ≠ some 32 := by
  have hle : ∀ (p : UInt8 → Bool) (m : List UInt8), (m.dropWhile p).length ≤ m.length := fun p m => (List.dropWhile_sublist p).length_le
  constructor
  · intro h
    have hl : (Lib.trimB l 32).length = l.length := by rw [h]
    unfold Lib.trimB Lib.trimLeftB Lib.trimRightB at hl
    have h1 := hle (· == 32) (l.reverse.dropWhile (· == 32)).reverse
    have h2 := hle (· == 32) l.reverse
    simp only [List.length_reverse] at h1 h2
    constructor
    · intro hh
      cases l with
      | nil => cases hh
      | cons x t =>
        obtain rfl : x = 32 := by simpa using hh
        have e1 : (32 :: t).reverse.dropWhile (· == 32) = (32 :: t).reverse := by
          apply (List.dropWhile_sublist _).eq_of_length
          simp only [List.length_reverse]; omega
        rw [e1, List.reverse_reverse] at hl
        have := hle (· == 32) t
        simp only [List.dropWhile_cons, BEq.rfl, if_true, List.length_cons] at hl
        omega
    · intro hh
      have hr : l.reverse.head? = some 32 := by rw [List.head?_reverse]; exact hh
      cases hq : l.reverse with
      | nil => rw [hq] at hr; cases hr
      | cons x t =>
        rw [hq] at hr
        obtain rfl : x = 32 := by simpa using hr
        have hlen : l.length = t.length + 1 := by have := congrArg List.length hq; simpa using this
        have := hle (· == 32) t
        have e1 : (l.reverse.dropWhile (· == 32)).length ≤ t.length := by rw [hq]; simpa using this
        omega
  · rintro ⟨h1, h2⟩
    unfold Lib.trimB Lib.trimLeftB Lib.trimRightB
    have e1 : l.reverse.dropWhile (· == 32) = l.reverse := by
      cases hq : l.reverse with
      | nil => rfl
      | cons x t =>
        have : l.getLast? = some x := by rw [← List.head?_reverse, hq]; rfl
        have hx : x ≠ 32 := by rintro rfl; exact h2 this
        simp [List.dropWhile_cons, hx]
    rw [e1, List.reverse_reverse]
    cases l with
    | nil => rfl
    | cons x t =>
      have hx : x ≠ 32 := by rintro rfl; exact h1 rfl
      simp [List.dropWhile_cons, hx]
end Go.Proofs.YticjkfacdmmopaaDoor.Txt
namespace Go.Proofs.YticjkfacdmmopaaDoor.Face
open Go.RowKit Go.Proofs.YticjkfacdmmopaaDoor.Ext Go.Proofs.YticjkfacdmmopaaDoor.Q Go.Proofs.YticjkfacdmmopaaDoor.Txt Go.Proofs.YticjkfacdmmopaaDoorW.PrintWords Go.Proofs.YticjkfacdmmopaaDoorW.PrintLast Go.Proofs.YticjkfacdmmopaaDoorW.PrintMore
set_option linter.unusedVariables false
set_option linter.unusedSimpArgs false
abbrev Pr := S137
abbrev LP := S139
abbrev kLP := k139
abbrev kPr := k137
def byP (a b : Int) : List Pr → Int
  | [] => 0
  | p :: ps => if p.f0 = a ∧ p.f1 = b then p.f2 else byP a b ps
abbrev St := List Int × Int × UInt8
def gapB (L : List Int) (P : List Pr) (p c : UInt8) : Int := if p = 32 then 0 else rd L 27 + byP p.toNat c.toNat P
def wB (L : List Int) (c : UInt8) : Int := rd L ((c.toNat : Int) - 65)
def step (L : List Int) (P : List Pr) (s : St) (c : UInt8) : St :=
  if c = 32 then (s.1, s.2.1 + rd L 26, 32)
  else (s.1 ++ [s.2.1 + gapB L P s.2.2 c], s.2.1 + gapB L P s.2.2 c + wB L c, c)
def run (L : List Int) (P : List Pr) (t : List UInt8) : St := t.foldl (step L P) ([], 0, 32)
def lets (t : List UInt8) : List UInt8 := t.filter fun b => b != 32
def pairAt (g : Int) (P : List Pr) (i : Nat) : Bool :=
  let p := P.getD i ⟨0, 0, 0⟩
  let q := P.getD (i - 1) ⟨0, 0, 0⟩
  ((decide (65 ≤ p.f0) && decide (p.f0 ≤ 90)) && ((decide (65 ≤ p.f1) && decide (p.f1 ≤ 90)) && (inB p.f2 (-10) 10 && (p.f2 != 0 && decide (0 ≤ IntKind.i8.wrap (g + p.f2))))))
  && (i == 0 || (decide (q.f0 < p.f0) || (q.f0 == p.f0 && decide (q.f1 < p.f1))))
def pairsB (g : Int) (P : List Pr) : Bool := (List.range P.length).all (pairAt g P)
def shapeB (L : List Int) (P : List Pr) : Bool := (L.take 26).all (fun n => inB n 1 40) && (pairsB (rd L 27) P && (inB (rd L 26) 1 40 && inB (rd L 27) 0 10))
def faceB (L : List Int) (P : List Pr) : Bool := decide (P.length ≤ 12) && shapeB L P
theorem face_wide {L : List Int} {P : List Pr} (hl : L.length = 28) (h : shapeB L P = true) (n : Nat) (hn : n < 26) : 1 ≤ rd L n ∧ rd L n ≤ 40 := by
  unfold shapeB at h
  simp only [Bool.and_eq_true] at h
  have h1 := List.all_eq_true.1 h.1 (rd L n) (by
    rw [show rd L (n : Int) = L[n]'(by omega) by simp [rd, List.getD_eq_getElem?_getD, List.getElem?_eq_getElem (show n < L.length by omega)]]
    rw [List.mem_take_iff_getElem]
    exact ⟨n, by omega, rfl⟩)
  exact inB_iff.1 h1
def okTxt (t : List UInt8) : Prop := ∀ b ∈ t, b = 32 ∨ 65 ≤ b.toNat ∧ b.toNat ≤ 90
theorem wB_in {L : List Int} {P : List Pr} (hl : L.length = 28) (h : shapeB L P = true) (c : UInt8) (h0 : 65 ≤ c.toNat) (h1 : c.toNat ≤ 90) : 1 ≤ wB L c ∧ wB L c ≤ 40 := by
  unfold wB
  have := face_wide hl h (c.toNat - 65) (by omega)
  rwa [show ((c.toNat - 65 : Nat) : Int) = (c.toNat : Int) - 65 by omega] at this
def rngB (L : List Int) (P : List Pr) : Bool := L.all (fun n => inB n (-128) 127) && P.all fun p => (inB p.f0 0 255 && inB p.f1 0 255) && inB p.f2 (-128) 127
def isFaceF (L : List Int) (P : List Pr) : Option Bool := if rngB L P then some (shapeB L P) else none
theorem kLP_mk (w : World) (x : LP) : kLP.K w x [.int .u8 x.f0, .int .u8 x.f1, .int .i8 x.f2] := by simpa using (show (k139).K w x [.int .u8 x.f0, .int .u8 x.f1, .int .i8 x.f2] from ⟨[.int .u8 x.f0], [.int .u8 x.f1, .int .i8 x.f2], rfl, rfl, ⟨[.int .u8 x.f1], [.int .i8 x.f2], rfl, rfl, rfl⟩⟩)
def faceV (l : List Int) (A : Option Addr) (n c : Nat) : Array Value := (cellsK .i8 l).push (.slice A n c)
theorem faceV_size (l : List Int) (A : Option Addr) (n c : Nat) : (faceV l A n c).size = l.length + 1 := by unfold faceV; rw [Array.size_push, cellsK_size]
theorem face_cell {w : World} {g : Nat} {t : TypeId} {l : List Int} {A : Option Addr} {n c : Nat} (h : w.heap[g]? = some (.cells (faceV l A n c) t (0, 0))) (j : Nat) (hj : j < l.length) : w.cell? ⟨g, j, none⟩ = some (.int .i8 (rd l j)) := by
  rw [blk_cell h j]
  unfold faceV
  rw [Array.getElem?_push_lt (by rw [cellsK_size]; exact hj)]
  have h2 : (w.alloc (.cells (cellsK .i8 l) t (0, 0))).cell? ⟨w.heap.size, j, none⟩ = some (.int .i8 (rd l j)) := cellsK_cell (blk_new w _) j hj
  rw [blk_cell (blk_new w _) j, Array.getElem?_eq_getElem (by rw [cellsK_size]; exact hj)] at h2
  exact h2
theorem face_pairs {w : World} {g m : Nat} {t : TypeId} {l : List Int} {A : Option Addr} {n c : Nat} (h : w.heap[g]? = some (.cells (faceV l A n c) t (0, 0))) (hm : l.length = m) : w.cell? ⟨g, m, none⟩ = some (.slice A n c) := by
  rw [blk_cell h m]
  unfold faceV
  subst hm
  rw [← cellsK_size .i8 l]
  exact Array.getElem?_push_size
end Go.Proofs.YticjkfacdmmopaaDoor.Face
namespace Go.Proofs.YticjkfacdmmopaaDoor.Ext
open Go.RowKit Go.Proofs.YticjkfacdmmopaaDoorW.PrintWords Go.Proofs.YticjkfacdmmopaaDoorW.PrintLast Go.Proofs.YticjkfacdmmopaaDoorW.PrintMore
set_option linter.unusedVariables false
set_option linter.unusedSimpArgs false
def Predi16 (g : Nat) (lb : Array Value) (p : Int → Bool) (w : World) : Prop :=
  ∀ (W : World) (x : Int), Below w.heap.size w W → Calls Tryd.prog g (#[.int .i16 x] ++ lb) W fun e w' => e = .returned (.bool (p x)) ∧ Below w.heap.size w w'
set_option maxHeartbeats 1000000 in
theorem indexFunc_i16 (g : Nat) (lb : Array Value) (p : Int → Bool) (eg : ∀ args w, (callFunc g args).run Tryd.prog w = .ok (.enter g args) w) (A : Option Addr) (c : Nat) (l : List Int) (w : World)
    (hp : Predi16 g lb p w) (hr : Kd.C (Kd.int .i16) w A l.length l) :
    Calls Tryd.prog 178 #[.slice A l.length c, .func (.func g) #[] lb] w fun e w' => e = .returned (.int .i64 (idxI p l)) ∧ Below w.heap.size w w' := by
  have HR := Aside0.mk hr
  have hbig : l.length ≤ 9223372036854775807 := hr.2.1
  clear hr
  go_enter Tryd.func178, Tryd.ntmps178
  go_wp2
  go_loopg [5, 8] l.length (fun gg _ s8 wr => ∃ kk : Nat, kk ≤ l.length ∧ l.length - kk ≤ gg ∧ s8 = .int .i64 kk ∧ Aside0 (Below w.heap.size w wr) ∧ Aside0 (∀ j, j < kk → p (l.getD j 0) = false))
  case atStart => exact ⟨0, Nat.zero_le _, by omega, rfl, ⟨Below.refl _ w⟩, ⟨fun j hj => absurd hj (Nat.not_lt_zero _)⟩⟩
  case round =>
    obtain ⟨kk, hkk, hg, rfl, BW, A1⟩ := hrel
    by_cases hlt : kk < l.length
    · have hltz : (kk : Int) < (l.length : Int) := by omega
      obtain ⟨ad, rfl, hc0⟩ := Kd.at_int HR.out kk (by omega) (by omega)
      rw [Int.toNat_natCast] at hc0
      have hc := (BW.out.cell (World.block_lt_of_cell? w _ hc0)).trans hc0
      have hcall := hp wr (rd l kk) BW.out
      clear hc0 hp
      generalize hy : rd l kk = y at hc hcall
      have B := Aside0.mk hy
      clear hy
      cases hq : p y with
      | true =>
        rw [hq] at hcall
        go_wp2_with fail
        refine hcall.mono ?_
        rintro e w' ⟨rfl, hb'⟩
        go_wp2_with fail
        go_ret
        refine ⟨?_, hb'⟩
        rw [idxI_hit p l kk hlt (by have := B.out; unfold rd at this; simp only [Int.toNat_natCast] at this; rw [this]; exact hq) A1.out]
        rfl
      | false =>
        rw [hq] at hcall
        go_wp2_with fail
        refine hcall.mono ?_
        rintro e w' ⟨rfl, hb'⟩
        go_wp2_with fail
        go_roundg (l.length - (kk + 1))
        case measure => omega
        case rel =>
          refine ⟨kk + 1, by omega, by omega, by go_num, ⟨hb'⟩, ⟨fun j hj => ?_⟩⟩
          by_cases e : j = kk
          · subst e
            have := B.out; unfold rd at this; simp only [Int.toNat_natCast] at this; rw [this]; exact hq
          · exact A1.out j (by omega)
    · have hltz : ¬ (kk : Int) < (l.length : Int) := by omega
      have : kk = l.length := by omega
      subst this
      go_wp2
      go_ret
      refine ⟨?_, BW.out⟩
      rw [idxI_miss p l A1.out]
      rfl
set_option maxHeartbeats 1000000 in
theorem containsFunc_i16 (g : Nat) (lb : Array Value) (p : Int → Bool) (eg : ∀ args w, (callFunc g args).run Tryd.prog w = .ok (.enter g args) w) (A : Option Addr) (c : Nat) (l : List Int) (w : World)
    (hp : Predi16 g lb p w) (hr : Kd.C (Kd.int .i16) w A l.length l) :
    Calls Tryd.prog 157 #[.slice A l.length c, .func (.func g) #[] lb] w fun e w' => e = .returned (.bool (l.any p)) ∧ Below w.heap.size w w' := by
  rw [← idxI_any]
  go_enter Tryd.func157, Tryd.ntmps157
  go_wp2_with (go_at_call 178; refine (indexFunc_i16 g lb p eg A c l _ hp hr).mono ?_; rintro e w' ⟨rfl, hb'⟩)
  go_ret
  exact ⟨rfl, hb'⟩
theorem containsFunc_i16_n (g : Nat) (lb : Array Value) (p : Int → Bool) (eg : ∀ args w, (callFunc g args).run Tryd.prog w = .ok (.enter g args) w) (A : Option Addr) (n c : Nat) (l : List Int) (hn : l.length = n) (w : World)
    (hp : Predi16 g lb p w) (hr : Kd.C (Kd.int .i16) w A l.length l) :
    Calls Tryd.prog 157 #[.slice A n c, .func (.func g) #[] lb] w fun e w' => e = .returned (.bool (l.any p)) ∧ Below w.heap.size w w' := by
  subst hn
  exact containsFunc_i16 g lb p eg A c l w hp hr
set_option maxHeartbeats 400000 in
theorem in_calls (a b c : Int) (w : World) :
    Calls Tryd.prog 84 #[.int .i64 a, .int .i64 b, .int .i64 c] w fun e w' => e = .returned (.bool (inB a b c)) ∧ w = w' := by
  unfold inB
  by_cases h : b ≤ a
  · have h1 : decide (b ≤ a) = true := by simpa using h
    go_enter Tryd.func84, Tryd.ntmps84
    go_wp2
    go_ret
    exact ⟨by simp [h], rfl⟩
  · have h1 : decide (b ≤ a) = false := by simpa using h
    go_enter Tryd.func84, Tryd.ntmps84
    go_wp2
    go_ret
    exact ⟨by simp [h], rfl⟩
theorem reads_of_block {k : IntKind} {g : Nat} {t : TypeId} {l : List Int} {w : World} (hl : l.length ≤ 9223372036854775807) (hb : w.heap[g]? = some (.cells (cellsK k l) t (0, 0))) : Kd.C (Kd.int k) w (some ⟨g, 0, none⟩) l.length l := by
  refine Kd.C_of_reads (enc := Value.int k) (d := (0 : Int)) (h1 := fun _ => rfl) ⟨rfl, hl, fun hp => ⟨_, rfl, fun j hj => ?_⟩⟩
  have := cellsK_cell hb j hj
  rw [add_plain]
  rw [this]
  simp [rd]
open Go.RowKit Go.Proofs.YticjkfacdmmopaaDoor.Q Go.Proofs.YticjkfacdmmopaaDoor.Face Go.Proofs.YticjkfacdmmopaaDoorW.PrintWords Go.Proofs.YticjkfacdmmopaaDoorW.PrintLast Go.Proofs.YticjkfacdmmopaaDoorW.PrintMore
theorem q_same {P : Program} {f : FuncId} {args : Array Value} {w : World} {n : Nat} {v : Value}
    (h : Calls P f args (w.drewN n) fun e w' => e = .returned v ∧ w.drewN n = w') : Calls P f args (w.drewN n) fun e w'' => e = .returned v ∧ ∃ m, w'' = w.drewN m :=
  h.mono fun _ _ ⟨he, hm⟩ => ⟨he, n, hm.symm⟩
def letB (x : Int) : Bool := decide (65 ≤ x) && decide (x ≤ 90)
set_option maxHeartbeats 400000 in
theorem sletter_calls (x : Int) (w : World) : Calls Tryd.prog 118 #[.int .u8 x] w fun e w' => e = .returned (.bool (letB x)) ∧ w = w' := by
  unfold letB
  by_cases h : 65 ≤ x
  · have h1 : decide (65 ≤ x) = true := by simpa using h
    go_enter Tryd.func118, Tryd.ntmps118
    go_wp2
    go_ret
    exact ⟨by simp [h], rfl⟩
  · have h1 : decide (65 ≤ x) = false := by simpa using h
    go_enter Tryd.func118, Tryd.ntmps118
    go_wp2
    go_ret
    exact ⟨by simp [h], rfl⟩
theorem sletter_as (x : Int) (w : World) {b : Bool} (h : letB x = b) : Calls Tryd.prog 118 #[.int .u8 x] w fun e w' => e = .returned (.bool b) ∧ w = w' := by
  subst h; exact sletter_calls x w
theorem in_as (a b c : Int) (w : World) {r : Bool} (h : inB a b c = r) : Calls Tryd.prog 84 #[.int .i64 a, .int .i64 b, .int .i64 c] w fun e w' => e = .returned (.bool r) ∧ w = w' := by
  subst h; exact in_calls a b c w
theorem cellF {w : World} {g : Nat} {t : TypeId} {l : List Int} {A : Option Addr} {n c : Nat} (h : w.heap[g]? = some (.cells (faceV l A n c) t (0, 0))) (j : Nat) (hj : j < l.length) {x : Int} (hx : rd l j = x) : w.cell? ⟨g, j, none⟩ = some (.int .i8 x) := by
  rw [← hx]; exact face_cell h j hj
theorem all_range_false {p : Nat → Bool} {m n : Nat} (h : n < m) (hp : p n = false) : (List.range m).all p = false := by
  rw [Bool.eq_false_iff]
  intro ha
  have := List.all_eq_true.1 ha n (by simpa using h)
  rw [hp] at this; cases this
theorem pairAt_eq {g : Int} {P : List Pr} {n : Nat} {x0 x1 x2 : Int} (hp : (⟨x0, x1, x2⟩ : Pr) = rd_T137 P n) :
    pairAt g P n = ((letB x0 && (letB x1 && (inB x2 (-10) 10 && (x2 != 0 && decide (0 ≤ IntKind.i8.wrap (g + x2)))))) && (n == 0 || (decide ((rd_T137 P ((n - 1 : Nat) : Int)).f0 < x0) || ((rd_T137 P ((n - 1 : Nat) : Int)).f0 == x0 && decide ((rd_T137 P ((n - 1 : Nat) : Int)).f1 < x1))))) := by
  have e1 : P.getD n ⟨0, 0, 0⟩ = ⟨x0, x1, x2⟩ := by rw [hp]; unfold rd_T137; rw [Int.toNat_natCast]; rfl
  have e2 : P.getD (n - 1) ⟨0, 0, 0⟩ = rd_T137 P ((n - 1 : Nat) : Int) := by unfold rd_T137; rw [Int.toNat_natCast]; rfl
  unfold pairAt letB
  simp only [e1, e2, Bool.and_assoc]
def aheadB (z0 z1 x0 x1 : Int) : Bool := decide (z0 < x0) || (z0 == x0 && decide (z1 < x1))
theorem ahead_eq (z0 z1 z2 x0 x1 x2 : Int) : spec_l01Ahead.f z0 z1 z2 x0 x1 x2 = some (aheadB z0 z1 x0 x1) := by
  unfold spec_l01Ahead.f aheadB
  repeat' split
  all_goals simp_all
theorem cellB {w w1 : World} {p : Addr} {v : Value} (h : w.cell? p = some v) (hb : Below w.heap.size w w1) : w1.cell? p = some v := (hb.cell (World.block_lt_of_cell? w _ h)).trans h
def shapeTab.T14 : Bool × List (List Nat × List Nat) := (true, [([], []), ([0], [0]), ([1], [1]), ([2], [2]), ([3, 2], [2, 3]), ([4, 2], [2, 4]), ([5, 2], [2, 5]), ([2], [2]), ([7, 2], [2, 7]), ([6, 8, 2], [2, 6, 8]), ([9, 2], [2, 9]), ([2], [2]), ([10, 11, 2, 2], [2, 10, 11]), ([12, 2], [2, 12]), ([2, 13], [2, 13])])
def shapeTab.B14 : List Nat := [0, 1, 3, 7, 15, 31, 63, 7, 135, 511, 1023, 7, 4095, 8191, 16383]
theorem shapeTab.tab14 : rtab .any (opsOf Tryd.f117 14) = shapeTab.T14 := by kernel_rfl
theorem shapeTab.bits14 : waitsOk shapeTab.T14.2 shapeTab.B14 = true := by kernel_rfl
set_option maxHeartbeats 2000000 in
set_option maxRecDepth 10000 in
theorem l01Shape_calls (g : Nat) (l : List Int) (hl : l.length = 28) (hw : ∀ y ∈ l, -128 ≤ y ∧ y ≤ 127) (A : Option Addr) (c : Nat) (P : List Pr) (hP : ∀ p ∈ P, (0 ≤ p.f0 ∧ p.f0 ≤ 255) ∧ (0 ≤ p.f1 ∧ p.f1 ≤ 255) ∧ (-128 ≤ p.f2 ∧ p.f2 ≤ 127)) (w : World)
    (hg : w.heap[g]? = some (.cells (faceV l A P.length c) 32 (0, 0))) (hr : Kd.C kPr w A P.length P) :
    Calls Tryd.prog 117 #[.pointer (some ⟨g, 0, none⟩)] w fun e w' => e = .returned (.bool (shapeB l P)) ∧ Below w.heap.size w w' := by
  have HG := Aside0.mk hg
  have HL := Aside0.mk hl
  have HR := Aside0.mk hr
  have HW := Aside0.mk hw
  have HP := Aside0.mk hP
  have hbig : P.length ≤ 9223372036854775807 := hr.2.1
  clear hg hl hr hw hP
  go_enter Tryd.func117, Tryd.ntmps117
  go_wp2
  go_loop [3] (fun i => ∃ n : Nat, n ≤ 26 ∧ i = .int .i64 n ∧ Aside0 ((l.take n).all (fun n => inB n 1 40) = true)) (fun i => 26 - (intOf i).toNat)
  case atStart => exact ⟨0, by omega, rfl, ⟨by simp⟩⟩
  case round =>
    obtain ⟨n, hn, rfl, HA⟩ := hrel
    by_cases hlt : n < 26
    · have hltz : (n : Int) < 26 := by omega
      have hc := face_cell HG.out n (by have := HL.out; omega)
      have hbd := HW.out _ (rd_mem' l n (by have := HL.out; omega))
      have HS := Aside0.mk (all_snoc' (fun n => inB n 1 40) l n (by have := HL.out; omega))
      have HF : Aside0 (inB (rd l n) 1 40 = false → (l.take 26).all (fun n => inB n 1 40) = false) := ⟨fun h => by
        have h0 : n < (l.take 26).length := by rw [List.length_take]; have := HL.out; omega
        refine all_take_false (fun n => inB n 1 40) (l.take 26) n h0 ?_
        rw [show rd (l.take 26) (n : Int) = rd l n by simp [rd, List.getD_eq_getElem?_getD, List.getElem?_take, hlt]]
        exact h⟩
      obtain ⟨hb1, hb2⟩ := hbd
      generalize rd l n = y at hc hb1 hb2 HS HF
      go_wp2_with fail
      refine (in_calls _ _ _ _).mono ?_
      rintro e w' ⟨rfl, rfl⟩
      cases hy : inB y 1 40
      · have HY := Aside0.mk hy
        clear hy
        go_wp2_with fail
        go_ret
        exact ⟨by unfold shapeB; rw [HF.out HY.out]; rfl, Below.refl _ _⟩
      · have HY := Aside0.mk hy
        clear hy
        go_wp2_with fail
        go_round
        case rel => exact ⟨n + 1, by omega, by go_num, ⟨by rw [HS.out, HA.out, HY.out]; rfl⟩⟩
        case measure => simp [intOf]; omega
    · have hltz : ¬ (n : Int) < 26 := by omega
      obtain rfl : n = 26 := by omega
      obtain ⟨y0, hy0⟩ : ∃ y, rd l (26 : Nat) = y := ⟨_, rfl⟩
      obtain ⟨y1, hy1⟩ : ∃ y, rd l (27 : Nat) = y := ⟨_, rfl⟩
      have ha := cellF HG.out 26 (by have := HL.out; omega) hy0
      have hb := cellF HG.out 27 (by have := HL.out; omega) hy1
      have w0 := HW.out _ (rd_mem' l 26 (by have := HL.out; omega))
      have w1 := HW.out _ (rd_mem' l 27 (by have := HL.out; omega))
      rw [hy0] at w0
      rw [hy1] at w1
      have Y0 := Aside0.mk hy0
      have Y1 := Aside0.mk hy1
      clear hy0 hy1
      obtain ⟨w01, w02⟩ := w0
      obtain ⟨w11, w12⟩ := w1
      have E0 : Aside0 (∀ x z, inB y0 1 40 = x → inB y1 0 10 = z → shapeB l P = (pairsB y1 P && (x && z))) := ⟨fun x z hx hz => by
        unfold shapeB
        rw [HA.out, Bool.true_and, show rd l 26 = y0 from Y0.out, show rd l 27 = y1 from Y1.out, hx, hz]⟩
      go_wp2_with fail
      refine (in_calls _ _ _ _).mono ?_
      rintro e w' ⟨rfl, rfl⟩
      cases hz0 : inB y0 1 40
      · have Z0 := Aside0.mk hz0
        clear hz0
        go_wp2_with fail
        go_ret
        exact ⟨by rw [E0.out _ _ Z0.out rfl]; simp, Below.refl _ _⟩
      · have Z0 := Aside0.mk hz0
        clear hz0
        go_wp2_with fail
        refine (in_calls _ _ _ _).mono ?_
        rintro e w' ⟨rfl, rfl⟩
        cases hz1 : inB y1 0 10
        · have Z1 := Aside0.mk hz1
          clear hz1
          go_wp2_with fail
          go_ret
          exact ⟨by rw [E0.out _ _ Z0.out Z1.out]; simp, Below.refl _ _⟩
        · have Z1 := Aside0.mk hz1
          clear hz1
          have hcs := face_pairs HG.out HL.out
          clear ha
          go_wp2_with fail
          go_loopw [4] (fun i wr => ∃ n : Nat, n ≤ P.length ∧ i = .int .i64 n ∧ Aside0 (Below w.heap.size w wr) ∧ Aside0 ((List.range n).all (pairAt y1 P) = true)) (fun i _ => P.length - (intOf i).toNat)
          case atStart => exact ⟨0, by omega, rfl, ⟨Below.refl _ _⟩, ⟨rfl⟩⟩
          case round =>
            obtain ⟨n, hn, rfl, HB, HA2⟩ := hrel
            have hcs' := cellB hcs HB.out
            have hb' := cellB hb HB.out
            have HC := Aside0.mk hcs
            have HB0 := Aside0.mk hb
            clear hcs hb
            by_cases hlt : n < P.length
            · have hltz : (n : Int) < (P.length : Int) := by omega
              obtain ⟨p, hp⟩ : ∃ p, p = rd_T137 P n := ⟨_, rfl⟩
              obtain ⟨ad, rfl, c0, c1, c2⟩ := at_T137 (Kd.C_below HR.out HB.out) n (by omega) (by omega)
              rw [Int.toNat_natCast] at c0 c1 c2
              rw [← hp] at c0 c1 c2
              have hpm : p ∈ P := by rw [hp]; unfold rd_T137; rw [Int.toNat_natCast, List.getD_eq_getElem?_getD, List.getElem?_eq_getElem hlt]; exact List.getElem_mem hlt
              obtain ⟨⟨b1, b2⟩, ⟨b3, b4⟩, b5, b6⟩ := HP.out p hpm
              obtain ⟨x0, x1, x2⟩ := p
              simp only at c0 c1 c2 b1 b2 b3 b4 b5 b6
              have HPn := Aside0.mk hp
              clear hpm
              have PA := Aside0.mk (pairAt_eq (g := y1) hp)
              have PF : Aside0 (pairAt y1 P n = false → shapeB l P = false) := ⟨fun h => by rw [E0.out _ _ Z0.out Z1.out]; unfold pairsB; rw [all_range_false hlt h]; rfl⟩
              obtain ⟨g0, g1⟩ := inB_iff.1 Z1.out
              have hlt2 : g < wr.heap.size := World.block_lt_of_cell? wr _ hb'
              have hne : ¬ g = wr.heap.size := by omega
              have hne2 : ¬ wr.heap.size = g := by omega
              clear hp
              go_wp2_with fail
              cases hA : letB x0
              · go_quiet (first | (go_at_call 118; exact q_same (sletter_as _ _ hA)))
                go_wp2_with fail
                go_ret
                exact ⟨by rw [PF.out (by rw [PA.out, hA]; first | rfl | simp)]; rfl, (by repeat (first | exact HB.out | apply below_alloc | apply pw_below_drewN | apply below_drew1 | (refine Below.setCell ?_ (by have := HB.out.size; simp; omega) _)))⟩
              · cases hB : letB x1
                · go_quiet (first | (go_at_call 118; exact q_same (sletter_as _ _ hA)) | (go_at_call 118; exact q_same (sletter_as _ _ hB)))
                  go_wp2_with fail
                  go_ret
                  exact ⟨by rw [PF.out (by rw [PA.out, hA, hB]; first | rfl | simp)]; rfl, (by repeat (first | exact HB.out | apply below_alloc | apply pw_below_drewN | apply below_drew1 | (refine Below.setCell ?_ (by have := HB.out.size; simp; omega) _)))⟩
                · cases hC : inB x2 (-10) 10
                  · go_quiet (first | (go_at_call 118; exact q_same (sletter_as _ _ hA)) | (go_at_call 118; exact q_same (sletter_as _ _ hB)) | (go_at_call 84; exact q_same (in_as _ _ _ _ hC)))
                    go_wp2_with fail
                    go_ret
                    exact ⟨by rw [PF.out (by rw [PA.out, hA, hB, hC]; first | rfl | simp)]; rfl, (by repeat (first | exact HB.out | apply below_alloc | apply pw_below_drewN | apply below_drew1 | (refine Below.setCell ?_ (by have := HB.out.size; simp; omega) _)))⟩
                  · obtain ⟨k0, k1⟩ := inB_iff.1 hC
                    have hwz : IntKind.i8.wrap (y1 + x2) = y1 + x2 := by simp [IntKind.wrap, IntKind.signed, IntKind.bits]; omega
                    have HWZ := Aside0.mk hwz
                    clear hwz
                    cases hD : (x2 == 0)
                    · cases hE : decide (y1 + x2 < 0)
                      · go_quiet (first | (go_at_call 118; exact q_same (sletter_as _ _ hA)) | (go_at_call 118; exact q_same (sletter_as _ _ hB)) | (go_at_call 84; exact q_same (in_as _ _ _ _ hC)))
                        have hD' : (x2 != 0) = true := by rw [bne, hD]; rfl
                        have HE : Aside0 (decide (0 ≤ y1 + x2) = true) := ⟨by have := of_decide_eq_false hE; exact decide_eq_true (by omega)⟩
                        have PA2 : Aside0 (pairAt y1 P n = (n == 0 || (decide ((rd_T137 P ((n - 1 : Nat) : Int)).f0 < x0) || ((rd_T137 P ((n - 1 : Nat) : Int)).f0 == x0 && decide ((rd_T137 P ((n - 1 : Nat) : Int)).f1 < x1))))) := ⟨by rw [PA.out, hA, hB, hC, hD', HWZ.out, HE.out]; rfl⟩
                        clear hA hB hC hD hD' hE
                        go_wp2_with fail
                        cases n with
                        | zero =>
                          go_region
                          go_wp2_with fail
                          go_roundw
                          case rel => exact ⟨1, by omega, by go_num, ⟨(by repeat (first | exact HB.out | apply below_alloc | apply pw_below_drewN | apply below_drew1))⟩, ⟨by rw [show List.range 1 = [0] from rfl]; simp [PA2.out]⟩⟩
                          case measure => simp [intOf]; omega
                        | succ m =>
                          have hsub : ((m + 1 : Nat) : Int) - 1 = (m : Int) := by omega
                          have hwm : wrap64 (m : Int) = (m : Int) := by unfold wrap64; omega
                          have hml : (m : Int) < (P.length : Int) := by omega
                          have hpos : 0 < m + 1 := by omega
                          obtain ⟨q, hq⟩ : ∃ q, q = rd_T137 P m := ⟨_, rfl⟩
                          obtain ⟨ad', e', d0, d1, d2⟩ := at_T137 (Kd.C_below HR.out HB.out) m (by omega) (by omega)
                          injection e' with e'
                          subst e'
                          rw [Int.toNat_natCast] at d0 d1 d2
                          rw [← hq] at d0 d1 d2
                          have PA3 := Aside0.mk PA2.out
                          rw [show m + 1 - 1 = m by omega, ← hq] at PA3
                          have Hq := Aside0.mk hq
                          clear hq PA PA2
                          obtain ⟨z0, z1, z2⟩ := q
                          simp only at d0 d1 d2 PA3
                          have hlt3 : ad.block < wr.heap.size := by have := World.block_lt_of_cell? wr _ d0; rwa [add_block] at this
                          have hne3 : ¬ ad.block = wr.heap.size := by omega
                          have hne4 : ¬ wr.heap.size = ad.block := by omega
                          generalize hWd : ((wr.alloc (Obj.cells #[Value.int .u8 x0, Value.int .u8 x1, Value.int .i8 x2] 137)).drewN nq) = W
                          have BW : Below wr.heap.size wr W := by subst hWd; exact pw_below_drewN (below_alloc (Below.refl _ _) _) _
                          have hnew : W.heap[wr.heap.size]? = some (Obj.cells #[Value.int .u8 x0, Value.int .u8 x1, Value.int .i8 x2] 137 (0, 0)) := by subst hWd; exact blk_drewN (blk_new wr _) _
                          have f28 := cellB hcs' BW
                          have f0 := cellB d0 BW
                          have f1 := cellB d1 BW
                          have f2 := cellB d2 BW
                          have n0 : W.cell? ⟨wr.heap.size, 0, none⟩ = some (.int .u8 x0) := (blk_cell hnew 0).trans rfl
                          have n1 : W.cell? ⟨wr.heap.size, 1, none⟩ = some (.int .u8 x1) := (blk_cell hnew 1).trans rfl
                          have n2 : W.cell? ⟨wr.heap.size, 2, none⟩ = some (.int .i8 x2) := (blk_cell hnew 2).trans rfl
                          have HBW := Aside0.mk (below_step HB.out BW)
                          clear hWd BW hnew d0 d1 d2 hcs' hb' HB c0 c1 c2 hne hne2 hne3 hne4
                          refine start_ (n := 15) (S := fun w' => w'.cell? ⟨g, 28, none⟩ = some (.slice (some ad) P.length c) ∧ w'.cell? (ad.add (m * 3)) = some (.int .u8 z0) ∧ w'.cell? ⟨(ad.add (m * 3)).block, (ad.add (m * 3)).off + 1, none⟩ = some (.int .u8 z1) ∧ w'.cell? ⟨(ad.add (m * 3)).block, (ad.add (m * 3)).off + 2, none⟩ = some (.int .i8 z2) ∧ w'.cell? ⟨wr.heap.size, 0, none⟩ = some (.int .u8 x0) ∧ w'.cell? ⟨wr.heap.size, 1, none⟩ = some (.int .u8 x1) ∧ w'.cell? ⟨wr.heap.size, 2, none⟩ = some (.int .i8 x2)) (ds := [12]) #[false, false, false, false, false, false, false, false, false, false, false, false, false, false, false] (by kernel_rfl) rfl rfl ⟨f28, f0, f1, f2, n0, n1, n2⟩ (fun hHeld => ?_)
                          refine with_tabW shapeTab.tab14 shapeTab.bits14 (fun HT_ HW_ => ?_)
                          refine pure_ (i := 0) (N := some 83) (v := ?_) (a' := ?_) #[true, false, false, false, false, false, false, false, false, false, false, false, false, false, false] rfl rfl (any_of HT_.out (by kernel_rfl)) (fun _ _ _ h => h) (Or.inl ⟨by rfl, ?_⟩) ?_ ?_
                          rotate_left
                          · intro w'
                            go_simp
                            with_reducible rfl
                          rotate_left
                          · simp only [Act.put, List.setIfInBounds_toArray, List.set_cons_zero, List.set_cons_succ, i64_w, i32_w]
                            rfl
                          refine pure_ (i := 1) (N := some 84) (v := ?_) (a' := ?_) #[true, true, false, false, false, false, false, false, false, false, false, false, false, false, false] rfl rfl (any_of HT_.out (by kernel_rfl)) (fun _ _ _ h => h) (Or.inl ⟨by rfl, ?_⟩) ?_ ?_
                          rotate_left
                          · intro w'
                            go_simp
                            with_reducible rfl
                          rotate_left
                          · simp only [Act.put, List.setIfInBounds_toArray, List.set_cons_zero, List.set_cons_succ, i64_w, i32_w]
                            rfl
                          refine pure_ (i := 2) (N := some 85) (v := ?_) (a' := ?_) #[true, true, true, false, false, false, false, false, false, false, false, false, false, false, false] rfl rfl (any_of HT_.out (by kernel_rfl)) (fun _ _ _ h => h) (Or.inl ⟨by rfl, ?_⟩) ?_ ?_
                          rotate_left
                          · intro w'
                            go_simp
                            with_reducible rfl
                          rotate_left
                          · simp only [Act.put, List.setIfInBounds_toArray, List.set_cons_zero, List.set_cons_succ, i64_w, i32_w]
                            rfl
                          refine pure_ (i := 3) (N := some 86) (v := ?_) (a' := ?_) #[true, true, true, true, false, false, false, false, false, false, false, false, false, false, false] rfl rfl (any_of HT_.out (by kernel_rfl)) (fun _ _ _ h => h) (Or.inl ⟨by rfl, ?_⟩) ?_ ?_
                          rotate_left
                          · intro w'
                            go_simp
                            with_reducible rfl
                          rotate_left
                          · simp only [Act.put, List.setIfInBounds_toArray, List.set_cons_zero, List.set_cons_succ, i64_w, i32_w]
                            rfl
                          refine pure_ (i := 4) (N := some 87) (v := ?_) (a' := ?_) #[true, true, true, true, true, false, false, false, false, false, false, false, false, false, false] rfl rfl (any_of HT_.out (by kernel_rfl)) (fun _ _ _ h => h) (Or.inl ⟨by rfl, ?_⟩) ?_ ?_
                          rotate_left
                          · intro w'
                            go_simp
                            with_reducible rfl
                          rotate_left
                          · simp only [Act.put, List.setIfInBounds_toArray, List.set_cons_zero, List.set_cons_succ, i64_w, i32_w]
                            rfl
                          refine pure_ (i := 5) (N := some 88) (v := ?_) (a' := ?_) #[true, true, true, true, true, true, false, false, false, false, false, false, false, false, false] rfl rfl (any_of HT_.out (by kernel_rfl)) (fun _ _ _ h => h) (Or.inl ⟨by rfl, ?_⟩) ?_ ?_
                          rotate_left
                          · intro w'
                            go_simp
                            with_reducible rfl
                          rotate_left
                          · simp only [Act.put, List.setIfInBounds_toArray, List.set_cons_zero, List.set_cons_succ, i64_w, i32_w]
                            rfl
                          refine pure_ (i := 7) (N := some 90) (v := ?_) (a' := ?_) #[true, true, true, true, true, true, false, true, false, false, false, false, false, false, false] rfl rfl (any_of HT_.out (by kernel_rfl)) (fun _ _ _ h => h) (Or.inl ⟨by rfl, ?_⟩) ?_ ?_
                          rotate_left
                          · intro w'
                            go_simp
                            with_reducible rfl
                          rotate_left
                          · simp only [Act.put, List.setIfInBounds_toArray, List.set_cons_zero, List.set_cons_succ, i64_w, i32_w]
                            rfl
                          refine pure_ (i := 8) (N := some 91) (v := ?_) (a' := ?_) #[true, true, true, true, true, true, false, true, true, false, false, false, false, false, false] rfl rfl (any_of HT_.out (by kernel_rfl)) (fun _ _ _ h => h) (Or.inl ⟨by rfl, ?_⟩) ?_ ?_
                          rotate_left
                          · intro w'
                            go_simp
                            with_reducible rfl
                          rotate_left
                          · simp only [Act.put, List.setIfInBounds_toArray, List.set_cons_zero, List.set_cons_succ, i64_w, i32_w]
                            rfl
                          refine take_ (i := 6) (N := some 89) (v := ?_) (a' := ?_) #[true, true, true, true, true, true, true, true, true, false, false, false, false, false, false] rfl rfl (take_ofW HT_.out HW_.out (by kernel_rfl)) (fun _ _ _ h => h) (Or.inl ⟨by rfl, ?_⟩) hHeld ?_ ?_
                          rotate_left
                          · rintro w' ⟨s0, s1, s2, s3, s4, s5, s6⟩
                            go_simp
                            with_reducible rfl
                          rotate_left
                          · simp only [Act.put, List.setIfInBounds_toArray, List.set_cons_zero, List.set_cons_succ, i64_w, i32_w]
                            rfl
                          refine pure_ (i := 9) (N := some 92) (v := ?_) (a' := ?_) #[true, true, true, true, true, true, true, true, true, true, false, false, false, false, false] rfl rfl (any_of HT_.out (by kernel_rfl)) (fun _ _ _ h => h) (Or.inl ⟨by rfl, ?_⟩) ?_ ?_
                          rotate_left
                          · intro w'
                            go_simp
                            with_reducible rfl
                          rotate_left
                          · simp only [Act.put, List.setIfInBounds_toArray, List.set_cons_zero, List.set_cons_succ, i64_w, i32_w]
                            rfl
                          refine take_ (i := 10) (N := some 93) (v := ?_) (a' := ?_) #[true, true, true, true, true, true, true, true, true, true, true, false, false, false, false] rfl rfl (take_ofW HT_.out HW_.out (by kernel_rfl)) (fun _ _ _ h => h) (Or.inl ⟨by rfl, ?_⟩) hHeld ?_ ?_
                          rotate_left
                          · rintro w' ⟨s0, s1, s2, s3, s4, s5, s6⟩
                            go_simp
                            with_reducible rfl
                          rotate_left
                          · simp only [Act.put, List.setIfInBounds_toArray, List.set_cons_zero, List.set_cons_succ, i64_w, i32_w]
                            rfl
                          refine take_ (i := 11) (N := some 94) (v := ?_) (a' := ?_) #[true, true, true, true, true, true, true, true, true, true, true, true, false, false, false] rfl rfl (take_ofW HT_.out HW_.out (by kernel_rfl)) (fun _ _ _ h => h) (Or.inl ⟨by rfl, ?_⟩) hHeld ?_ ?_
                          rotate_left
                          · rintro w' ⟨s0, s1, s2, s3, s4, s5, s6⟩
                            go_simp
                            with_reducible rfl
                          rotate_left
                          · simp only [Act.put, List.setIfInBounds_toArray, List.set_cons_zero, List.set_cons_succ, i64_w, i32_w]
                            rfl
                          refine last_ (i := 12) (N := some 95) #[true, true, true, true, true, true, true, true, true, true, true, true, true, false, false] rfl rfl (one_of HT_.out (by kernel_rfl)) (by decide) (fun K hK => ?_)
                          refine goes_ Tryd.func149 (by kernel_rfl) rfl #[.agg #[.int .u8 z0, .int .u8 z1, .int .i8 z2], .agg #[.int .u8 x0, .int .u8 x1, .int .i8 x2]] (by rfl) rfl rfl (by simp only [List.map_toArray, List.map_cons, List.map_nil]; rfl) ?_
                          with_reducible refine (spec_l01Ahead.calls z0 z1 z2 x0 x1 x2 _ _ (ahead_eq z0 z1 z2 x0 x1 x2)).mono ?_
                          rintro e w9 ⟨rfl, hb9⟩
                          refine ⟨_, rfl, ?_⟩
                          refine hK.out _ _ ?_
                          clear hK K
                          refine norm_ (a' := ?_) ?_ ?_
                          rotate_left
                          · show Act.put _ (some 95) _ = _
                            simp only [Act.put, List.setIfInBounds_toArray, List.set_cons_zero, List.set_cons_succ, i64_w, i32_w]
                            rfl
                          refine pure_ (i := 13) (N := some 96) (v := ?_) (a' := ?_) #[true, true, true, true, true, true, true, true, true, true, true, true, true, true, false] rfl rfl (any_of HT_.out (by kernel_rfl)) (fun _ _ _ h => h) (Or.inl ⟨by rfl, ?_⟩) ?_ ?_
                          rotate_left
                          · intro w'
                            go_simp
                            with_reducible rfl
                          rotate_left
                          · simp only [Act.put, List.setIfInBounds_toArray, List.set_cons_zero, List.set_cons_succ, i64_w, i32_w]
                            rfl
                          refine pure_ (i := 14) (N := some 97) (v := ?_) (a' := ?_) #[true, true, true, true, true, true, true, true, true, true, true, true, true, true, true] rfl rfl (any_of HT_.out (by kernel_rfl)) (fun _ _ _ h => h) (Or.inl ⟨by rfl, ?_⟩) ?_ ?_
                          rotate_left
                          · intro w'
                            go_simp
                            with_reducible rfl
                          rotate_left
                          · simp only [Act.put, List.setIfInBounds_toArray, List.set_cons_zero, List.set_cons_succ, i64_w, i32_w]
                            rfl
                          refine done_ (done_of HT_.out (by kernel_rfl)) ?_
                          have PA4 : Aside0 (pairAt y1 P (m + 1) = aheadB z0 z1 x0 x1) := ⟨by rw [PA3.out]; unfold aheadB; simp⟩
                          have HB9 := Aside0.mk (below_step (below_drew1 HBW.out) hb9)
                          clear hb9 f28 f0 f1 f2 n0 n1 n2 hHeld
                          cases hAh : aheadB z0 z1 x0 x1
                          · go_wp2_with fail
                            go_ret
                            exact ⟨by rw [PF.out (by rw [PA4.out, hAh])]; rfl, HB9.out⟩
                          · go_wp2_with fail
                            go_roundw
                            case rel => exact ⟨m + 1 + 1, by omega, by go_num, ⟨HB9.out⟩, ⟨by rw [List.range_succ, List.all_append, HA2.out, List.all_cons, PA4.out, hAh]; rfl⟩⟩
                            case measure => simp [intOf]; omega
                      · go_quiet (first | (go_at_call 118; exact q_same (sletter_as _ _ hA)) | (go_at_call 118; exact q_same (sletter_as _ _ hB)) | (go_at_call 84; exact q_same (in_as _ _ _ _ hC)))
                        have hD' : (x2 != 0) = true := by rw [bne, hD]; rfl
                        have HE : Aside0 (decide (0 ≤ y1 + x2) = false) := ⟨by have := of_decide_eq_true hE; exact decide_eq_false (by omega)⟩
                        go_wp2_with fail
                        go_ret
                        exact ⟨by rw [PF.out (by rw [PA.out, hA, hB, hC, hD', HWZ.out, HE.out]; first | rfl | simp)]; rfl, (by repeat (first | exact HB.out | apply below_alloc | apply pw_below_drewN | apply below_drew1 | (refine Below.setCell ?_ (by have := HB.out.size; simp; omega) _)))⟩
                    · go_quiet (first | (go_at_call 118; exact q_same (sletter_as _ _ hA)) | (go_at_call 118; exact q_same (sletter_as _ _ hB)) | (go_at_call 84; exact q_same (in_as _ _ _ _ hC)))
                      have hD' : (x2 != 0) = false := by rw [bne, hD]; rfl
                      go_wp2_with fail
                      go_ret
                      exact ⟨by rw [PF.out (by rw [PA.out, hA, hB, hC, hD']; first | rfl | simp)]; rfl, (by repeat (first | exact HB.out | apply below_alloc | apply pw_below_drewN | apply below_drew1 | (refine Below.setCell ?_ (by have := HB.out.size; simp; omega) _)))⟩
            · have hltz : ¬ (n : Int) < (P.length : Int) := by omega
              obtain rfl : n = P.length := by omega
              go_wp2
              go_ret
              exact ⟨by rw [E0.out _ _ Z0.out Z1.out, show pairsB y1 P = true from HA2.out]; rfl, HB.out⟩
theorem cmp_eq (z0 z1 z2 x0 x1 x2 : Int) : ∃ r, impl_comparePairs.f 9 z0 z1 z2 x0 x1 x2 = some r ∧ (aheadB z0 z1 x0 x1 = true ∧ r = -1 ∨ aheadB z0 z1 x0 x1 = false ∧ (r = 0 ∨ r = 1)) := by
  have hc : ∀ a b : Int, cmp_Compare_uint8.f a b = some (if a < b then -1 else if b < a then 1 else 0) := fun a b => by
    unfold cmp_Compare_uint8.f cmp_isNaN_uint8.f
    simp only [bne_self_eq_false, Option.bind_some, Bool.false_eq_true, if_false, GT.gt]
    repeat' split
    all_goals rfl
  unfold impl_comparePairs.f
  rw [hc, hc, Option.bind_some, Option.bind_some]
  have ho : ∀ a b : Int, cmp_Or_int.f 9 [a, b] = some (if a = 0 then b else a) := fun a b => by
    unfold cmp_Or_int.f
    have e1 : wrap64 1 = 1 := by unfold wrap64; omega
    have e2 : wrap64 2 = 2 := by unfold wrap64; omega
    by_cases ha : a = 0
    · by_cases hb : b = 0
      · subst ha hb; simp [cmp_Or_int.l0, rd, e1, e2]
      · simp [cmp_Or_int.l0, rd, ha, hb, e1]
    · simp [cmp_Or_int.l0, rd, ha]
  rw [ho, Option.bind_some]
  refine ⟨_, rfl, ?_⟩
  unfold aheadB
  by_cases h1 : z0 < x0
  · simp [h1]
  · by_cases h2 : x0 < z0
    · have : ¬ z0 = x0 := by omega
      simp [h1, h2, this]
    · have : z0 = x0 := by omega
      subst this
      by_cases h3 : z1 < x1
      · simp [h3]
      · by_cases h4 : x1 < z1 <;> simp [h3, h4]
theorem iletter_calls (x : Int) (w : World) : Calls Tryd.prog 150 #[.int .u8 x] w fun e w' => e = .returned (.bool (letB x)) ∧ w = w' := by
  unfold letB
  by_cases h : 65 ≤ x
  · have h1 : decide (65 ≤ x) = true := by simpa using h
    go_enter Tryd.func150, Tryd.ntmps150
    go_wp2
    go_ret
    exact ⟨by simp [h], rfl⟩
  · have h1 : decide (65 ≤ x) = false := by simpa using h
    go_enter Tryd.func150, Tryd.ntmps150
    go_wp2
    go_ret
    exact ⟨by simp [h], rfl⟩
theorem iletter_as (x : Int) (w : World) {b : Bool} (h : letB x = b) : Calls Tryd.prog 150 #[.int .u8 x] w fun e w' => e = .returned (.bool b) ∧ w = w' := by
  subst h; exact iletter_calls x w
theorem within_as (a b c : Int) (w : World) {r : Bool} (h : inB a b c = r) : Calls Tryd.prog 85 #[.int .i64 a, .int .i64 b, .int .i64 c] w fun e w' => e = .returned (.bool r) ∧ w = w' := by
  subst h; exact within_calls a b c w
theorem range_face {w : World} {g : Nat} {t : TypeId} {l : List Int} {A : Option Addr} {n c : Nat} (h : w.heap[g]? = some (.cells (faceV l A n c) t (0, 0))) (m : Nat) (hm : m ≤ l.length) : w.rangeAt g 0 (nums .i8 (l.take m)) := by
  intro j v hv
  have hj : j < (nums .i8 (l.take m)).length := (List.getElem?_eq_some_iff.1 hv).1
  have hj' : j < m := by simp [nums] at hj; omega
  rw [Nat.zero_add, face_cell h j (by omega), ← hv]
  simp only [nums, List.getElem?_map, List.getElem?_take, hj', if_true, List.getElem?_eq_getElem (show j < l.length by omega), Option.map_some, rd, Int.toNat_natCast, List.getD_eq_getElem?_getD, Option.getD_some]
theorem ev_index {P : Program} {ops : Array Oper} {rest : List Oper} {o : Oper} {a : Act} {Q : Exit → Act → World → Prop} {W : World} (hgd : o.guard = none) (xt : TypeId) (x ix : Operand) (ho : o.op = .index xt x ix) (X : Array Value) (k : IntKind) (n len : Nat) (elem : TypeId) (v : Value)
    (hx : a.eval x = .agg X) (hi : a.eval ix = .int k n) (hu : P.underlying xt = some (.array len elem)) (hn : n < len) (he : P.plainKey elem = true) (hs : (P.info? elem).map (·.size) = some 1) (hX : X[n]? = some v)
    (h : wpList P ops Q rest (a.put o.dst v) W) : wpList P ops Q (o :: rest) a W := by
  have hrun : (Instr.index xt (.agg X) (.int k n)).run P W = .ok v W := by
    have hp := run_part_plain (P := P) W he hX
    cases hq : P.info? elem with
    | none => simp [hq] at hs
    | some i =>
      have h1 : i.size = 1 := by simpa [hq] using hs
      have hr : (0 : Int) ≤ (n : Int) ∧ (n : Int) < (len : Int) := ⟨by omega, by omega⟩
      simp [Instr.index, Sem.run_bind, run_underlying hu, asIntOf, sizeOf, typeInfo, hq, h1, hr, hn, hp]
  refine wpList_plain hgd fun K hK => ?_
  unfold Oper.wp execOp
  simp only [ho, hx, hi, Sem.run_bind, Sem.run_pure, Result.andThen_ok, hrun]
  exact hK _ _ h
theorem info_26 : (Tryd.prog.info? 23).map (·.size) = some 26 := by kernel_rfl
def faceTab.T10 : Bool × List (List Nat × List Nat) := (true, [([], []), ([0], [0]), ([1], [1]), ([2], [2]), ([3, 2], [3]), ([4], [4]), ([5, 4], [4, 5]), ([6, 4, 4], [4, 6]), ([7, 4], [4, 7]), ([4, 8], [4, 8]), ([9, 7], [9]), ([10], [10]), ([11, 10], [10, 11]), ([12, 10], [10, 12]), ([13, 10, 10], [10, 13]), ([14, 10], [10, 14]), ([10, 15], [10, 15]), ([16, 14], [16]), ([17], [17]), ([18, 17], [17, 18]), ([19, 17], [17, 19]), ([17, 20], [17, 20]), ([21, 17], [21]), ([22], [22]), ([23, 22], [22, 23]), ([22], [22]), ([25, 22], [22, 25]), ([24, 26, 22], [22, 24, 26]), ([27, 22], [22, 27]), ([22, 28], [22, 28]), ([29, 22], [29]), ([30], [30]), ([31, 30], [30, 31]), ([32, 30, 30], [30, 32]), ([33], [33]), ([34, 33], [33, 34]), ([33], [33]), ([36, 33], [33, 36]), ([35, 37, 33], [33, 35, 37]), ([38, 33], [33, 38]), ([33], [33]), ([39, 40, 33, 33], [33, 39, 40]), ([41, 33], [33, 41]), ([33, 42, 30], [30, 33, 42]), ([30, 43], [30, 43])])
def faceTab.B10 : List Nat := [0, 1, 3, 7, 15, 31, 63, 127, 255, 511, 1023, 2047, 4095, 8191, 16383, 32767, 65535, 131071, 262143, 524287, 1048575, 2097151, 4194303, 8388607, 16777215, 8388607, 41943039, 134217727, 268435455, 536870911, 1073741823, 2147483647, 4294967295, 8589934591, 17179869183, 34359738367, 17179869183, 85899345919, 274877906943, 549755813887, 17179869183, 2199023255551, 4398046511103, 8796093022207, 17592186044415]
theorem faceTab.tab10 : rtab .any (opsOf Tryd.f121 10) = faceTab.T10 := by kernel_rfl
theorem faceTab.bits10 : waitsOk faceTab.T10.2 faceTab.B10 = true := by kernel_rfl
set_option maxHeartbeats 4000000 in
set_option maxRecDepth 10000 in
theorem isFace_calls (l : List Int) (hl : l.length = 28) (hw : ∀ y ∈ l, -128 ≤ y ∧ y ≤ 127) (A : Option Addr) (c : Nat) (P : List Pr) (hP : ∀ p ∈ P, (0 ≤ p.f0 ∧ p.f0 ≤ 255) ∧ (0 ≤ p.f1 ∧ p.f1 ≤ 255) ∧ (-128 ≤ p.f2 ∧ p.f2 ≤ 127)) (w : World)
    (hr : Kd.C kPr w A P.length P) :
    Calls Tryd.prog 121 #[.agg (faceV l A P.length c)] w fun e w' => e = .returned (.bool (shapeB l P)) ∧ Below w.heap.size w w' := by
  have B1 := Aside0.mk (blk_new w (.cells (faceV l A P.length c) 32))
  have HB := Aside0.mk (below_alloc (Below.refl w.heap.size w) (.cells (faceV l A P.length c) 32))
  have HI : Aside0 ((Tryd.prog.info? 23).map (·.size) = some (nums .i8 (l.take 26)).length) := ⟨by rw [show (nums .i8 (l.take 26)).length = 26 by simp [nums]; omega]; exact info_26⟩
  have HL := Aside0.mk hl
  have HR := Aside0.mk hr
  have HW := Aside0.mk hw
  have HP := Aside0.mk hP
  have hbig : P.length ≤ 9223372036854775807 := hr.2.1
  clear hl hr hw hP
  go_enter Tryd.func121, Tryd.ntmps121
  go_wp2_with (first | ((with_reducible refine gate_dst (N := 8) rfl ?_); refine wpList_load_mid rfl 23 (.tmp 7) rfl w.heap.size 0 rfl (nums .i8 (l.take 26)) _ (range_face B1.out 26 (by have := HL.out; omega)) Tryd.underlying23 rfl HI.out ?_) | fail)
  obtain ⟨X, hX⟩ : ∃ X, X = (nums .i8 (l.take 26)).toArray := ⟨_, rfl⟩
  rw [← hX]
  have HX : Aside0 (∀ n : Nat, n < 26 → X[n]? = some (.int .i8 (rd l n))) := ⟨fun n hn => by
    have h1 := cellsK_get .i8 (l.take 26) n (by rw [List.length_take]; have := HL.out; omega)
    rw [hX]
    refine Eq.trans h1 ?_
    simp [rd, List.getD_eq_getElem?_getD, List.getElem?_take, hn]⟩
  clear hX
  go_loop [9] (fun i => ∃ n : Nat, n ≤ 26 ∧ i = .int .i64 n ∧ Aside0 ((l.take n).all (fun n => inB n 1 40) = true)) (fun i => 26 - (intOf i).toNat)
  case atStart => exact ⟨0, by omega, rfl, ⟨by simp⟩⟩
  case round =>
    obtain ⟨n, hn, rfl, HA⟩ := hrel
    by_cases hlt : n < 26
    · have hltz : (n : Int) < 26 := by omega
      have hc := HX.out n hlt
      have hbd := HW.out _ (rd_mem' l n (by have := HL.out; omega))
      have HS := Aside0.mk (all_snoc' (fun n => inB n 1 40) l n (by have := HL.out; omega))
      have HF : Aside0 (inB (rd l n) 1 40 = false → (l.take 26).all (fun n => inB n 1 40) = false) := ⟨fun h => by
        have h0 : n < (l.take 26).length := by rw [List.length_take]; have := HL.out; omega
        refine all_take_false (fun n => inB n 1 40) (l.take 26) n h0 ?_
        rw [show rd (l.take 26) (n : Int) = rd l n by simp [rd, List.getD_eq_getElem?_getD, List.getElem?_take, hlt]]
        exact h⟩
      obtain ⟨hb1, hb2⟩ := hbd
      generalize rd l n = y at hc hb1 hb2 HS HF
      go_wp2_with (first | ((with_reducible refine gate_dst (N := 11) rfl ?_); refine ev_index rfl 23 (.tmp 8) (.tmp 9) rfl X .i64 n 26 22 _ rfl rfl Tryd.underlying23 hlt (by kernel_rfl) (by kernel_rfl) hc ?_) | fail)
      refine (within_calls _ _ _ _).mono ?_
      rintro e w' ⟨rfl, rfl⟩
      cases hy : inB y 1 40
      · have HY := Aside0.mk hy
        clear hy
        go_wp2_with fail
        go_ret
        exact ⟨by unfold shapeB; rw [HF.out HY.out]; rfl, HB.out⟩
      · have HY := Aside0.mk hy
        clear hy
        go_wp2_with fail
        go_round
        case rel => exact ⟨n + 1, by omega, by go_num, ⟨by rw [HS.out, HA.out, HY.out]; rfl⟩⟩
        case measure => simp [intOf]; omega
    · have hltz : ¬ (n : Int) < 26 := by omega
      obtain rfl : n = 26 := by omega
      obtain ⟨y0, hy0⟩ : ∃ y, rd l (26 : Nat) = y := ⟨_, rfl⟩
      obtain ⟨y1, hy1⟩ : ∃ y, rd l (27 : Nat) = y := ⟨_, rfl⟩
      have ha := cellF B1.out 26 (by have := HL.out; omega) hy0
      have hb := cellF B1.out 27 (by have := HL.out; omega) hy1
      have w0 := HW.out _ (rd_mem' l 26 (by have := HL.out; omega))
      have w1 := HW.out _ (rd_mem' l 27 (by have := HL.out; omega))
      rw [hy0] at w0
      rw [hy1] at w1
      have Y0 := Aside0.mk hy0
      have Y1 := Aside0.mk hy1
      clear hy0 hy1
      obtain ⟨w01, w02⟩ := w0
      obtain ⟨w11, w12⟩ := w1
      have E0 : Aside0 (∀ x z, inB y0 1 40 = x → inB y1 0 10 = z → shapeB l P = (pairsB y1 P && (x && z))) := ⟨fun x z hx hz => by
        unfold shapeB
        rw [HA.out, Bool.true_and, show rd l 26 = y0 from Y0.out, show rd l 27 = y1 from Y1.out, hx, hz]⟩
      have hcs := face_pairs B1.out HL.out
      clear HA
      generalize hW1 : w.alloc (Obj.cells (faceV l A P.length c) 32) = W1 at ha hb hcs HB
      clear hW1 B1
      go_wp2_with fail
      go_loopw [20] (fun i wr => ∃ n : Nat, n ≤ P.length ∧ i = .int .i64 n ∧ Aside0 (Below w.heap.size w wr) ∧ Aside0 (Below W1.heap.size W1 wr) ∧ Aside0 ((List.range n).all (pairAt y1 P) = true)) (fun i _ => P.length - (intOf i).toNat)
      case atStart => exact ⟨0, by omega, rfl, HB, ⟨Below.refl _ _⟩, ⟨rfl⟩⟩
      case round =>
        clear HB
        obtain ⟨n, hn, rfl, HB, HB1, HA2⟩ := hrel
        have ha' := cellB ha HB1.out
        have hb' := cellB hb HB1.out
        have hcs' := cellB hcs HB1.out
        have HC := Aside0.mk hcs
        have HB0 := Aside0.mk hb
        have HA0 := Aside0.mk ha
        clear hcs hb ha
        have hlt2 : w.heap.size < wr.heap.size := World.block_lt_of_cell? wr _ hb'
        have hne : ¬ w.heap.size = wr.heap.size := by omega
        have hne2 : ¬ wr.heap.size = w.heap.size := by omega
        by_cases hlt : n < P.length
        · have hltz : (n : Int) < (P.length : Int) := by omega
          obtain ⟨p, hp⟩ : ∃ p, p = rd_T137 P n := ⟨_, rfl⟩
          obtain ⟨ad, rfl, c0, c1, c2⟩ := at_T137 (Kd.C_below HR.out HB.out) n (by omega) (by omega)
          rw [Int.toNat_natCast] at c0 c1 c2
          rw [← hp] at c0 c1 c2
          have hpm : p ∈ P := by rw [hp]; unfold rd_T137; rw [Int.toNat_natCast, List.getD_eq_getElem?_getD, List.getElem?_eq_getElem hlt]; exact List.getElem_mem hlt
          obtain ⟨⟨b1, b2⟩, ⟨b3, b4⟩, b5, b6⟩ := HP.out p hpm
          obtain ⟨x0, x1, x2⟩ := p
          simp only at c0 c1 c2 b1 b2 b3 b4 b5 b6
          clear hpm ha'
          have PA := Aside0.mk (pairAt_eq (g := y1) hp)
          have PF : Aside0 (pairAt y1 P n = false → shapeB l P = false) := ⟨fun h => by rw [E0.out _ _ rfl rfl]; unfold pairsB; rw [all_range_false hlt h]; rfl⟩
          clear hp
          go_wp2_with fail
          cases hA : letB x0
          · go_quiet (first | (go_at_call 150; exact q_same (iletter_as _ _ hA)))
            go_wp2_with fail
            go_ret
            exact ⟨by rw [PF.out (by rw [PA.out, hA]; first | rfl | simp)]; rfl, (by repeat (first | exact HB.out | apply below_alloc | apply pw_below_drewN | apply below_drew1))⟩
          · cases hB : letB x1
            · go_quiet (first | (go_at_call 150; exact q_same (iletter_as _ _ hA)) | (go_at_call 150; exact q_same (iletter_as _ _ hB)))
              go_wp2_with fail
              go_ret
              exact ⟨by rw [PF.out (by rw [PA.out, hA, hB]; first | rfl | simp)]; rfl, (by repeat (first | exact HB.out | apply below_alloc | apply pw_below_drewN | apply below_drew1))⟩
            · cases hC : inB x2 (-10) 10
              · go_quiet (first | (go_at_call 150; exact q_same (iletter_as _ _ hA)) | (go_at_call 150; exact q_same (iletter_as _ _ hB)) | (go_at_call 85; exact q_same (within_as _ _ _ _ hC)))
                go_wp2_with fail
                go_ret
                exact ⟨by rw [PF.out (by rw [PA.out, hA, hB, hC]; first | rfl | simp)]; rfl, (by repeat (first | exact HB.out | apply below_alloc | apply pw_below_drewN | apply below_drew1))⟩
              · cases hD : (x2 == 0)
                · cases hE : decide (IntKind.i8.wrap (y1 + x2) < 0)
                  · have hD' : (x2 != 0) = true := by rw [bne, hD]; rfl
                    have HE : Aside0 (decide (0 ≤ IntKind.i8.wrap (y1 + x2)) = true) := ⟨by have := of_decide_eq_false hE; exact decide_eq_true (by omega)⟩
                    have PA2 : Aside0 (pairAt y1 P n = (n == 0 || (decide ((rd_T137 P ((n - 1 : Nat) : Int)).f0 < x0) || ((rd_T137 P ((n - 1 : Nat) : Int)).f0 == x0 && decide ((rd_T137 P ((n - 1 : Nat) : Int)).f1 < x1))))) := ⟨by rw [PA.out, hA, hB, hC, hD', HE.out]; rfl⟩
                    clear hD'
                    cases n with
                    | zero =>
                      go_quiet (first | (go_at_call 150; exact q_same (iletter_as _ _ hA)) | (go_at_call 150; exact q_same (iletter_as _ _ hB)) | (go_at_call 85; exact q_same (within_as _ _ _ _ hC)))
                      clear hA hB hC hD hE
                      go_wp2_with fail
                      go_roundw
                      case rel => exact ⟨1, by omega, by go_num, ⟨(by repeat (first | exact HB.out | apply below_alloc | apply pw_below_drewN | apply below_drew1))⟩, ⟨(by repeat (first | exact HB1.out | apply below_alloc | apply pw_below_drewN | apply below_drew1))⟩, ⟨by rw [show List.range 1 = [0] from rfl]; simp [PA2.out]⟩⟩
                      case measure => simp [intOf]; omega
                    | succ m =>
                      have hsub : ((m + 1 : Nat) : Int) - 1 = (m : Int) := by omega
                      have hwm : wrap64 (m : Int) = (m : Int) := by unfold wrap64; omega
                      have hml : (m : Int) < (P.length : Int) := by omega
                      have hpos : 0 < m + 1 := by omega
                      obtain ⟨q, hq⟩ : ∃ q, q = rd_T137 P m := ⟨_, rfl⟩
                      obtain ⟨ad', e', d0, d1, d2⟩ := at_T137 (Kd.C_below HR.out HB.out) m (by omega) (by omega)
                      injection e' with e'
                      subst e'
                      rw [Int.toNat_natCast] at d0 d1 d2
                      rw [← hq] at d0 d1 d2
                      have PA3 := Aside0.mk PA2.out
                      rw [show m + 1 - 1 = m by omega, ← hq] at PA3
                      have Hq := Aside0.mk hq
                      clear hq PA PA2
                      obtain ⟨z0, z1, z2⟩ := q
                      simp only at d0 d1 d2 PA3
                      generalize hWd : (wr.alloc (Obj.cells #[Value.int .u8 x0, Value.int .u8 x1, Value.int .i8 x2] 137)) = W
                      have BW : Below wr.heap.size wr W := by subst hWd; exact below_alloc (Below.refl _ _) _
                      have hnew : W.heap[wr.heap.size]? = some (Obj.cells #[Value.int .u8 x0, Value.int .u8 x1, Value.int .i8 x2] 137 (0, 0)) := by subst hWd; exact blk_new wr _
                      have f27 := cellB hb' BW
                      have f28 := cellB hcs' BW
                      have f0 := cellB d0 BW
                      have f1 := cellB d1 BW
                      have f2 := cellB d2 BW
                      have n0 : W.cell? ⟨wr.heap.size, 0, none⟩ = some (.int .u8 x0) := (blk_cell hnew 0).trans rfl
                      have n1 : W.cell? ⟨wr.heap.size, 1, none⟩ = some (.int .u8 x1) := (blk_cell hnew 1).trans rfl
                      have n2 : W.cell? ⟨wr.heap.size, 2, none⟩ = some (.int .i8 x2) := (blk_cell hnew 2).trans rfl
                      have HBW := Aside0.mk (below_step HB.out BW)
                      have HB1W := Aside0.mk (below_step HB1.out BW)
                      clear hWd BW hnew d0 d1 d2 hcs' hb' HB HB1 c0 c1 c2 hne hne2
                      have hCw : inB (wrap64 x2) (-10) 10 = true := by rw [show wrap64 x2 = x2 by unfold wrap64; omega]; exact hC
                      obtain ⟨r, hr, hr2⟩ := cmp_eq z0 z1 z2 x0 x1 x2
                      have HR2 := Aside0.mk hr2
                      replace hr := Aside0.mk hr
                      clear hr2
                      refine start_ (n := 45) (S := fun w' => w'.cell? ⟨w.heap.size, 27, none⟩ = some (.int .i8 y1) ∧ w'.cell? ⟨w.heap.size, 28, none⟩ = some (.slice (some ad) P.length c) ∧ w'.cell? (ad.add (m * 3)) = some (.int .u8 z0) ∧ w'.cell? ⟨(ad.add (m * 3)).block, (ad.add (m * 3)).off + 1, none⟩ = some (.int .u8 z1) ∧ w'.cell? ⟨(ad.add (m * 3)).block, (ad.add (m * 3)).off + 2, none⟩ = some (.int .i8 z2) ∧ w'.cell? ⟨wr.heap.size, 0, none⟩ = some (.int .u8 x0) ∧ w'.cell? ⟨wr.heap.size, 1, none⟩ = some (.int .u8 x1) ∧ w'.cell? ⟨wr.heap.size, 2, none⟩ = some (.int .i8 x2)) (ds := [41]) #[false, false, false, false, false, false, false, false, false, false, false, false, false, false, false, false, false, false, false, false, false, false, false, false, false, false, false, false, false, false, false, false, false, false, false, false, false, false, false, false, false, false, false, false, false] (by kernel_rfl) rfl rfl ⟨f27, f28, f0, f1, f2, n0, n1, n2⟩ (fun hHeld => ?_)
                      refine with_tabW faceTab.tab10 faceTab.bits10 (fun HT_ HW_ => ?_)
                      refine pure_ (i := 0) (N := some 25) (v := ?_) (a' := ?_) #[true, false, false, false, false, false, false, false, false, false, false, false, false, false, false, false, false, false, false, false, false, false, false, false, false, false, false, false, false, false, false, false, false, false, false, false, false, false, false, false, false, false, false, false, false] rfl rfl (any_of HT_.out (by kernel_rfl)) (fun _ _ _ h => h) (Or.inl ⟨by rfl, ?_⟩) ?_ ?_
                      rotate_left
                      · intro w'
                        go_simp
                        with_reducible rfl
                      rotate_left
                      · simp only [Act.put, List.setIfInBounds_toArray, List.set_cons_zero, List.set_cons_succ, i64_w, i32_w]
                        rfl
                      refine take_ (i := 1) (N := some 26) (v := ?_) (a' := ?_) #[true, true, false, false, false, false, false, false, false, false, false, false, false, false, false, false, false, false, false, false, false, false, false, false, false, false, false, false, false, false, false, false, false, false, false, false, false, false, false, false, false, false, false, false, false] rfl rfl (take_ofW HT_.out HW_.out (by kernel_rfl)) (fun _ _ _ h => h) (Or.inl ⟨by rfl, ?_⟩) hHeld ?_ ?_
                      rotate_left
                      · rintro w' ⟨s0, s1, s2, s3, s4, s5, s6, s7⟩
                        go_simp
                        with_reducible rfl
                      rotate_left
                      · simp only [Act.put, List.setIfInBounds_toArray, List.set_cons_zero, List.set_cons_succ, i64_w, i32_w]
                        rfl
                      refine one_ (i := 2) (N := some 27) #[true, true, true, false, false, false, false, false, false, false, false, false, false, false, false, false, false, false, false, false, false, false, false, false, false, false, false, false, false, false, false, false, false, false, false, false, false, false, false, false, false, false, false, false, false] rfl rfl (one_of HT_.out (by kernel_rfl)) (by decide) (fun K hK => ?_)
                      refine goes_ Tryd.func150 (by kernel_rfl) rfl #[.int .u8 x0] (by rfl) rfl rfl (by simp only [List.map_toArray, List.map_cons, List.map_nil]; rfl) ?_
                      with_reducible refine (iletter_as _ _ hA).mono ?_
                      rintro e w9 ⟨rfl, rfl⟩
                      refine ⟨_, rfl, ?_⟩
                      refine hK.out _ _ ⟨hHeld.1, hHeld.2.1, hHeld.2.2.1, hHeld.2.2.2.1, hHeld.2.2.2.2.1, hHeld.2.2.2.2.2.1, hHeld.2.2.2.2.2.2.1, hHeld.2.2.2.2.2.2.2⟩ (fun hHeld => ?_)
                      clear hK K
                      refine norm_ (a' := ?_) ?_ ?_
                      rotate_left
                      · show Act.put _ (some 27) _ = _
                        simp only [Act.put, List.setIfInBounds_toArray, List.set_cons_zero, List.set_cons_succ, i64_w, i32_w]
                        rfl
                      refine pure_ (i := 3) (N := some 28) (v := ?_) (a' := ?_) #[true, true, true, true, false, false, false, false, false, false, false, false, false, false, false, false, false, false, false, false, false, false, false, false, false, false, false, false, false, false, false, false, false, false, false, false, false, false, false, false, false, false, false, false, false] rfl rfl (any_of HT_.out (by kernel_rfl)) (fun _ _ _ h => h) (Or.inl ⟨by rfl, ?_⟩) ?_ ?_
                      rotate_left
                      · intro w'
                        go_simp
                        with_reducible rfl
                      rotate_left
                      · simp only [Act.put, List.setIfInBounds_toArray, List.set_cons_zero, List.set_cons_succ, i64_w, i32_w]
                        rfl
                      refine pure_ (i := 4) (N := some 29) (v := ?_) (a' := ?_) #[true, true, true, true, true, false, false, false, false, false, false, false, false, false, false, false, false, false, false, false, false, false, false, false, false, false, false, false, false, false, false, false, false, false, false, false, false, false, false, false, false, false, false, false, false] rfl rfl (any_of HT_.out (by kernel_rfl)) (fun _ _ _ h => h) (Or.inl ⟨by rfl, ?_⟩) ?_ ?_
                      rotate_left
                      · intro w'
                        go_simp
                        with_reducible rfl
                      rotate_left
                      · simp only [Act.put, List.setIfInBounds_toArray, List.set_cons_zero, List.set_cons_succ, i64_w, i32_w]
                        rfl
                      refine pure_ (i := 5) (N := some 30) (v := ?_) (a' := ?_) #[true, true, true, true, true, true, false, false, false, false, false, false, false, false, false, false, false, false, false, false, false, false, false, false, false, false, false, false, false, false, false, false, false, false, false, false, false, false, false, false, false, false, false, false, false] rfl rfl (any_of HT_.out (by kernel_rfl)) (fun _ _ _ h => h) (Or.inl ⟨by rfl, ?_⟩) ?_ ?_
                      rotate_left
                      · intro w'
                        go_simp
                        with_reducible rfl
                      rotate_left
                      · simp only [Act.put, List.setIfInBounds_toArray, List.set_cons_zero, List.set_cons_succ, i64_w, i32_w]
                        rfl
                      refine take_ (i := 6) (N := some 31) (v := ?_) (a' := ?_) #[true, true, true, true, true, true, true, false, false, false, false, false, false, false, false, false, false, false, false, false, false, false, false, false, false, false, false, false, false, false, false, false, false, false, false, false, false, false, false, false, false, false, false, false, false] rfl rfl (take_ofW HT_.out HW_.out (by kernel_rfl)) (fun _ _ _ h => h) (Or.inl ⟨by rfl, ?_⟩) hHeld ?_ ?_
                      rotate_left
                      · rintro w' ⟨s0, s1, s2, s3, s4, s5, s6, s7⟩
                        go_simp
                        with_reducible rfl
                      rotate_left
                      · simp only [Act.put, List.setIfInBounds_toArray, List.set_cons_zero, List.set_cons_succ, i64_w, i32_w]
                        rfl
                      refine one_ (i := 7) (N := some 32) #[true, true, true, true, true, true, true, true, false, false, false, false, false, false, false, false, false, false, false, false, false, false, false, false, false, false, false, false, false, false, false, false, false, false, false, false, false, false, false, false, false, false, false, false, false] rfl rfl (one_of HT_.out (by kernel_rfl)) (by decide) (fun K hK => ?_)
                      refine goes_ Tryd.func150 (by kernel_rfl) rfl #[.int .u8 x1] (by rfl) rfl rfl (by simp only [List.map_toArray, List.map_cons, List.map_nil]; rfl) ?_
                      with_reducible refine (iletter_as _ _ hB).mono ?_
                      rintro e w9 ⟨rfl, rfl⟩
                      refine ⟨_, rfl, ?_⟩
                      refine hK.out _ _ ⟨hHeld.1, hHeld.2.1, hHeld.2.2.1, hHeld.2.2.2.1, hHeld.2.2.2.2.1, hHeld.2.2.2.2.2.1, hHeld.2.2.2.2.2.2.1, hHeld.2.2.2.2.2.2.2⟩ (fun hHeld => ?_)
                      clear hK K
                      refine norm_ (a' := ?_) ?_ ?_
                      rotate_left
                      · show Act.put _ (some 32) _ = _
                        simp only [Act.put, List.setIfInBounds_toArray, List.set_cons_zero, List.set_cons_succ, i64_w, i32_w]
                        rfl
                      refine pure_ (i := 8) (N := some 33) (v := ?_) (a' := ?_) #[true, true, true, true, true, true, true, true, true, false, false, false, false, false, false, false, false, false, false, false, false, false, false, false, false, false, false, false, false, false, false, false, false, false, false, false, false, false, false, false, false, false, false, false, false] rfl rfl (any_of HT_.out (by kernel_rfl)) (fun _ _ _ h => h) (Or.inl ⟨by rfl, ?_⟩) ?_ ?_
                      rotate_left
                      · intro w'
                        go_simp
                        with_reducible rfl
                      rotate_left
                      · simp only [Act.put, List.setIfInBounds_toArray, List.set_cons_zero, List.set_cons_succ, i64_w, i32_w]
                        rfl
                      refine pure_ (i := 9) (N := some 34) (v := ?_) (a' := ?_) #[true, true, true, true, true, true, true, true, true, true, false, false, false, false, false, false, false, false, false, false, false, false, false, false, false, false, false, false, false, false, false, false, false, false, false, false, false, false, false, false, false, false, false, false, false] rfl rfl (any_of HT_.out (by kernel_rfl)) (fun _ _ _ h => h) (Or.inl ⟨by rfl, ?_⟩) ?_ ?_
                      rotate_left
                      · intro w'
                        go_simp
                        with_reducible rfl
                      rotate_left
                      · simp only [Act.put, List.setIfInBounds_toArray, List.set_cons_zero, List.set_cons_succ, i64_w, i32_w]
                        rfl
                      refine pure_ (i := 10) (N := some 35) (v := ?_) (a' := ?_) #[true, true, true, true, true, true, true, true, true, true, true, false, false, false, false, false, false, false, false, false, false, false, false, false, false, false, false, false, false, false, false, false, false, false, false, false, false, false, false, false, false, false, false, false, false] rfl rfl (any_of HT_.out (by kernel_rfl)) (fun _ _ _ h => h) (Or.inl ⟨by rfl, ?_⟩) ?_ ?_
                      rotate_left
                      · intro w'
                        go_simp
                        with_reducible rfl
                      rotate_left
                      · simp only [Act.put, List.setIfInBounds_toArray, List.set_cons_zero, List.set_cons_succ, i64_w, i32_w]
                        rfl
                      refine pure_ (i := 11) (N := some 36) (v := ?_) (a' := ?_) #[true, true, true, true, true, true, true, true, true, true, true, true, false, false, false, false, false, false, false, false, false, false, false, false, false, false, false, false, false, false, false, false, false, false, false, false, false, false, false, false, false, false, false, false, false] rfl rfl (any_of HT_.out (by kernel_rfl)) (fun _ _ _ h => h) (Or.inl ⟨by rfl, ?_⟩) ?_ ?_
                      rotate_left
                      · intro w'
                        go_simp
                        with_reducible rfl
                      rotate_left
                      · simp only [Act.put, List.setIfInBounds_toArray, List.set_cons_zero, List.set_cons_succ, i64_w, i32_w]
                        rfl
                      refine take_ (i := 12) (N := some 37) (v := ?_) (a' := ?_) #[true, true, true, true, true, true, true, true, true, true, true, true, true, false, false, false, false, false, false, false, false, false, false, false, false, false, false, false, false, false, false, false, false, false, false, false, false, false, false, false, false, false, false, false, false] rfl rfl (take_ofW HT_.out HW_.out (by kernel_rfl)) (fun _ _ _ h => h) (Or.inl ⟨by rfl, ?_⟩) hHeld ?_ ?_
                      rotate_left
                      · rintro w' ⟨s0, s1, s2, s3, s4, s5, s6, s7⟩
                        go_simp
                        with_reducible rfl
                      rotate_left
                      · simp only [Act.put, List.setIfInBounds_toArray, List.set_cons_zero, List.set_cons_succ, i64_w, i32_w]
                        rfl
                      refine pure_ (i := 13) (N := some 38) (v := ?_) (a' := ?_) #[true, true, true, true, true, true, true, true, true, true, true, true, true, true, false, false, false, false, false, false, false, false, false, false, false, false, false, false, false, false, false, false, false, false, false, false, false, false, false, false, false, false, false, false, false] rfl rfl (any_of HT_.out (by kernel_rfl)) (fun _ _ _ h => h) (Or.inl ⟨by rfl, ?_⟩) ?_ ?_
                      rotate_left
                      · intro w'
                        go_simp
                        with_reducible rfl
                      rotate_left
                      · simp only [Act.put, List.setIfInBounds_toArray, List.set_cons_zero, List.set_cons_succ, i64_w, i32_w]
                        rfl
                      refine one_ (i := 14) (N := some 39) #[true, true, true, true, true, true, true, true, true, true, true, true, true, true, true, false, false, false, false, false, false, false, false, false, false, false, false, false, false, false, false, false, false, false, false, false, false, false, false, false, false, false, false, false, false] rfl rfl (one_of HT_.out (by kernel_rfl)) (by decide) (fun K hK => ?_)
                      refine goes_ Tryd.func85 (by kernel_rfl) rfl #[.int .i64 (wrap64 x2), .int .i64 (-10), .int .i64 10] (by rfl) rfl rfl (by simp only [List.map_toArray, List.map_cons, List.map_nil]; rfl) ?_
                      with_reducible refine (within_as _ _ _ _ hCw).mono ?_
                      rintro e w9 ⟨rfl, rfl⟩
                      refine ⟨_, rfl, ?_⟩
                      refine hK.out _ _ ⟨hHeld.1, hHeld.2.1, hHeld.2.2.1, hHeld.2.2.2.1, hHeld.2.2.2.2.1, hHeld.2.2.2.2.2.1, hHeld.2.2.2.2.2.2.1, hHeld.2.2.2.2.2.2.2⟩ (fun hHeld => ?_)
                      clear hK K
                      refine norm_ (a' := ?_) ?_ ?_
                      rotate_left
                      · show Act.put _ (some 39) _ = _
                        simp only [Act.put, List.setIfInBounds_toArray, List.set_cons_zero, List.set_cons_succ, i64_w, i32_w]
                        rfl
                      refine pure_ (i := 15) (N := some 40) (v := ?_) (a' := ?_) #[true, true, true, true, true, true, true, true, true, true, true, true, true, true, true, true, false, false, false, false, false, false, false, false, false, false, false, false, false, false, false, false, false, false, false, false, false, false, false, false, false, false, false, false, false] rfl rfl (any_of HT_.out (by kernel_rfl)) (fun _ _ _ h => h) (Or.inl ⟨by rfl, ?_⟩) ?_ ?_
                      rotate_left
                      · intro w'
                        go_simp
                        with_reducible rfl
                      rotate_left
                      · simp only [Act.put, List.setIfInBounds_toArray, List.set_cons_zero, List.set_cons_succ, i64_w, i32_w]
                        rfl
                      refine pure_ (i := 16) (N := some 41) (v := ?_) (a' := ?_) #[true, true, true, true, true, true, true, true, true, true, true, true, true, true, true, true, true, false, false, false, false, false, false, false, false, false, false, false, false, false, false, false, false, false, false, false, false, false, false, false, false, false, false, false, false] rfl rfl (any_of HT_.out (by kernel_rfl)) (fun _ _ _ h => h) (Or.inl ⟨by rfl, ?_⟩) ?_ ?_
                      rotate_left
                      · intro w'
                        go_simp
                        with_reducible rfl
                      rotate_left
                      · simp only [Act.put, List.setIfInBounds_toArray, List.set_cons_zero, List.set_cons_succ, i64_w, i32_w]
                        rfl
                      refine pure_ (i := 17) (N := some 42) (v := ?_) (a' := ?_) #[true, true, true, true, true, true, true, true, true, true, true, true, true, true, true, true, true, true, false, false, false, false, false, false, false, false, false, false, false, false, false, false, false, false, false, false, false, false, false, false, false, false, false, false, false] rfl rfl (any_of HT_.out (by kernel_rfl)) (fun _ _ _ h => h) (Or.inl ⟨by rfl, ?_⟩) ?_ ?_
                      rotate_left
                      · intro w'
                        go_simp
                        with_reducible rfl
                      rotate_left
                      · simp only [Act.put, List.setIfInBounds_toArray, List.set_cons_zero, List.set_cons_succ, i64_w, i32_w]
                        rfl
                      refine pure_ (i := 18) (N := some 43) (v := ?_) (a' := ?_) #[true, true, true, true, true, true, true, true, true, true, true, true, true, true, true, true, true, true, true, false, false, false, false, false, false, false, false, false, false, false, false, false, false, false, false, false, false, false, false, false, false, false, false, false, false] rfl rfl (any_of HT_.out (by kernel_rfl)) (fun _ _ _ h => h) (Or.inl ⟨by rfl, ?_⟩) ?_ ?_
                      rotate_left
                      · intro w'
                        go_simp
                        with_reducible rfl
                      rotate_left
                      · simp only [Act.put, List.setIfInBounds_toArray, List.set_cons_zero, List.set_cons_succ, i64_w, i32_w]
                        rfl
                      refine take_ (i := 19) (N := some 44) (v := ?_) (a' := ?_) #[true, true, true, true, true, true, true, true, true, true, true, true, true, true, true, true, true, true, true, true, false, false, false, false, false, false, false, false, false, false, false, false, false, false, false, false, false, false, false, false, false, false, false, false, false] rfl rfl (take_ofW HT_.out HW_.out (by kernel_rfl)) (fun _ _ _ h => h) (Or.inl ⟨by rfl, ?_⟩) hHeld ?_ ?_
                      rotate_left
                      · rintro w' ⟨s0, s1, s2, s3, s4, s5, s6, s7⟩
                        go_simp
                        with_reducible rfl
                      rotate_left
                      · simp only [Act.put, List.setIfInBounds_toArray, List.set_cons_zero, List.set_cons_succ, i64_w, i32_w]
                        rfl
                      refine pure_ (i := 20) (N := some 45) (v := ?_) (a' := ?_) #[true, true, true, true, true, true, true, true, true, true, true, true, true, true, true, true, true, true, true, true, true, false, false, false, false, false, false, false, false, false, false, false, false, false, false, false, false, false, false, false, false, false, false, false, false] rfl rfl (any_of HT_.out (by kernel_rfl)) (fun _ _ _ h => h) (Or.inl ⟨by rfl, ?_⟩) ?_ ?_
                      rotate_left
                      · intro w'
                        go_simp
                        with_reducible rfl
                      rotate_left
                      · simp only [Act.put, List.setIfInBounds_toArray, List.set_cons_zero, List.set_cons_succ, i64_w, i32_w]
                        rfl
                      refine pure_ (i := 21) (N := some 46) (v := ?_) (a' := ?_) #[true, true, true, true, true, true, true, true, true, true, true, true, true, true, true, true, true, true, true, true, true, true, false, false, false, false, false, false, false, false, false, false, false, false, false, false, false, false, false, false, false, false, false, false, false] rfl rfl (any_of HT_.out (by kernel_rfl)) (fun _ _ _ h => h) (Or.inl ⟨by rfl, ?_⟩) ?_ ?_
                      rotate_left
                      · intro w'
                        go_simp
                        with_reducible rfl
                      rotate_left
                      · simp only [Act.put, List.setIfInBounds_toArray, List.set_cons_zero, List.set_cons_succ, i64_w, i32_w]
                        rfl
                      refine pure_ (i := 22) (N := some 47) (v := ?_) (a' := ?_) #[true, true, true, true, true, true, true, true, true, true, true, true, true, true, true, true, true, true, true, true, true, true, true, false, false, false, false, false, false, false, false, false, false, false, false, false, false, false, false, false, false, false, false, false, false] rfl rfl (any_of HT_.out (by kernel_rfl)) (fun _ _ _ h => h) (Or.inl ⟨by rfl, ?_⟩) ?_ ?_
                      rotate_left
                      · intro w'
                        go_simp
                        with_reducible rfl
                      rotate_left
                      · simp only [Act.put, List.setIfInBounds_toArray, List.set_cons_zero, List.set_cons_succ, i64_w, i32_w]
                        rfl
                      refine pure_ (i := 23) (N := some 48) (v := ?_) (a' := ?_) #[true, true, true, true, true, true, true, true, true, true, true, true, true, true, true, true, true, true, true, true, true, true, true, true, false, false, false, false, false, false, false, false, false, false, false, false, false, false, false, false, false, false, false, false, false] rfl rfl (any_of HT_.out (by kernel_rfl)) (fun _ _ _ h => h) (Or.inl ⟨by rfl, ?_⟩) ?_ ?_
                      rotate_left
                      · intro w'
                        go_simp
                        with_reducible rfl
                      rotate_left
                      · simp only [Act.put, List.setIfInBounds_toArray, List.set_cons_zero, List.set_cons_succ, i64_w, i32_w]
                        rfl
                      refine pure_ (i := 25) (N := some 50) (v := ?_) (a' := ?_) #[true, true, true, true, true, true, true, true, true, true, true, true, true, true, true, true, true, true, true, true, true, true, true, true, false, true, false, false, false, false, false, false, false, false, false, false, false, false, false, false, false, false, false, false, false] rfl rfl (any_of HT_.out (by kernel_rfl)) (fun _ _ _ h => h) (Or.inl ⟨by rfl, ?_⟩) ?_ ?_
                      rotate_left
                      · intro w'
                        go_simp
                        with_reducible rfl
                      rotate_left
                      · simp only [Act.put, List.setIfInBounds_toArray, List.set_cons_zero, List.set_cons_succ, i64_w, i32_w]
                        rfl
                      refine take_ (i := 24) (N := some 49) (v := ?_) (a' := ?_) #[true, true, true, true, true, true, true, true, true, true, true, true, true, true, true, true, true, true, true, true, true, true, true, true, true, true, false, false, false, false, false, false, false, false, false, false, false, false, false, false, false, false, false, false, false] rfl rfl (take_ofW HT_.out HW_.out (by kernel_rfl)) (fun _ _ _ h => h) (Or.inl ⟨by rfl, ?_⟩) hHeld ?_ ?_
                      rotate_left
                      · rintro w' ⟨s0, s1, s2, s3, s4, s5, s6, s7⟩
                        go_simp
                        with_reducible rfl
                      rotate_left
                      · simp only [Act.put, List.setIfInBounds_toArray, List.set_cons_zero, List.set_cons_succ, i64_w, i32_w]
                        rfl
                      refine take_ (i := 26) (N := some 51) (v := ?_) (a' := ?_) #[true, true, true, true, true, true, true, true, true, true, true, true, true, true, true, true, true, true, true, true, true, true, true, true, true, true, true, false, false, false, false, false, false, false, false, false, false, false, false, false, false, false, false, false, false] rfl rfl (take_ofW HT_.out HW_.out (by kernel_rfl)) (fun _ _ _ h => h) (Or.inl ⟨by rfl, ?_⟩) hHeld ?_ ?_
                      rotate_left
                      · rintro w' ⟨s0, s1, s2, s3, s4, s5, s6, s7⟩
                        go_simp
                        with_reducible rfl
                      rotate_left
                      · simp only [Act.put, List.setIfInBounds_toArray, List.set_cons_zero, List.set_cons_succ, i64_w, i32_w]
                        rfl
                      refine pure_ (i := 27) (N := some 52) (v := ?_) (a' := ?_) #[true, true, true, true, true, true, true, true, true, true, true, true, true, true, true, true, true, true, true, true, true, true, true, true, true, true, true, true, false, false, false, false, false, false, false, false, false, false, false, false, false, false, false, false, false] rfl rfl (any_of HT_.out (by kernel_rfl)) (fun _ _ _ h => h) (Or.inl ⟨by rfl, ?_⟩) ?_ ?_
                      rotate_left
                      · intro w'
                        go_simp
                        with_reducible rfl
                      rotate_left
                      · simp only [Act.put, List.setIfInBounds_toArray, List.set_cons_zero, List.set_cons_succ, i64_w, i32_w]
                        rfl
                      refine pure_ (i := 28) (N := some 53) (v := ?_) (a' := ?_) #[true, true, true, true, true, true, true, true, true, true, true, true, true, true, true, true, true, true, true, true, true, true, true, true, true, true, true, true, true, false, false, false, false, false, false, false, false, false, false, false, false, false, false, false, false] rfl rfl (any_of HT_.out (by kernel_rfl)) (fun _ _ _ h => h) (Or.inl ⟨by rfl, ?_⟩) ?_ ?_
                      rotate_left
                      · intro w'
                        go_simp
                        with_reducible rfl
                      rotate_left
                      · simp only [Act.put, List.setIfInBounds_toArray, List.set_cons_zero, List.set_cons_succ, i64_w, i32_w]
                        rfl
                      refine pure_ (i := 29) (N := some 54) (v := ?_) (a' := ?_) #[true, true, true, true, true, true, true, true, true, true, true, true, true, true, true, true, true, true, true, true, true, true, true, true, true, true, true, true, true, true, false, false, false, false, false, false, false, false, false, false, false, false, false, false, false] rfl rfl (any_of HT_.out (by kernel_rfl)) (fun _ _ _ h => h) (Or.inl ⟨by rfl, ?_⟩) ?_ ?_
                      rotate_left
                      · intro w'
                        go_simp
                        with_reducible rfl
                      rotate_left
                      · simp only [Act.put, List.setIfInBounds_toArray, List.set_cons_zero, List.set_cons_succ, i64_w, i32_w]
                        rfl
                      refine pure_ (i := 30) (N := some 55) (v := ?_) (a' := ?_) #[true, true, true, true, true, true, true, true, true, true, true, true, true, true, true, true, true, true, true, true, true, true, true, true, true, true, true, true, true, true, true, false, false, false, false, false, false, false, false, false, false, false, false, false, false] rfl rfl (any_of HT_.out (by kernel_rfl)) (fun _ _ _ h => h) (Or.inl ⟨by rfl, ?_⟩) ?_ ?_
                      rotate_left
                      · intro w'
                        go_simp
                        with_reducible rfl
                      rotate_left
                      · simp only [Act.put, List.setIfInBounds_toArray, List.set_cons_zero, List.set_cons_succ, i64_w, i32_w]
                        rfl
                      refine pure_ (i := 31) (N := some 56) (v := ?_) (a' := ?_) #[true, true, true, true, true, true, true, true, true, true, true, true, true, true, true, true, true, true, true, true, true, true, true, true, true, true, true, true, true, true, true, true, false, false, false, false, false, false, false, false, false, false, false, false, false] rfl rfl (any_of HT_.out (by kernel_rfl)) (fun _ _ _ h => h) (Or.inl ⟨by rfl, ?_⟩) ?_ ?_
                      rotate_left
                      · intro w'
                        go_simp
                        with_reducible rfl
                      rotate_left
                      · simp only [Act.put, List.setIfInBounds_toArray, List.set_cons_zero, List.set_cons_succ, i64_w, i32_w]
                        rfl
                      refine pure_ (i := 32) (N := some 57) (v := ?_) (a' := ?_) #[true, true, true, true, true, true, true, true, true, true, true, true, true, true, true, true, true, true, true, true, true, true, true, true, true, true, true, true, true, true, true, true, true, false, false, false, false, false, false, false, false, false, false, false, false] rfl rfl (any_of HT_.out (by kernel_rfl)) (fun _ _ _ h => h) (Or.inl ⟨by rfl, ?_⟩) ?_ ?_
                      rotate_left
                      · intro w'
                        go_simp
                        with_reducible rfl
                      rotate_left
                      · simp only [Act.put, List.setIfInBounds_toArray, List.set_cons_zero, List.set_cons_succ, i64_w, i32_w]
                        rfl
                      refine pure_ (i := 33) (N := some 58) (v := ?_) (a' := ?_) #[true, true, true, true, true, true, true, true, true, true, true, true, true, true, true, true, true, true, true, true, true, true, true, true, true, true, true, true, true, true, true, true, true, true, false, false, false, false, false, false, false, false, false, false, false] rfl rfl (any_of HT_.out (by kernel_rfl)) (fun _ _ _ h => h) (Or.inl ⟨by rfl, ?_⟩) ?_ ?_
                      rotate_left
                      · intro w'
                        go_simp
                        with_reducible rfl
                      rotate_left
                      · simp only [Act.put, List.setIfInBounds_toArray, List.set_cons_zero, List.set_cons_succ, i64_w, i32_w]
                        rfl
                      refine pure_ (i := 34) (N := some 59) (v := ?_) (a' := ?_) #[true, true, true, true, true, true, true, true, true, true, true, true, true, true, true, true, true, true, true, true, true, true, true, true, true, true, true, true, true, true, true, true, true, true, true, false, false, false, false, false, false, false, false, false, false] rfl rfl (any_of HT_.out (by kernel_rfl)) (fun _ _ _ h => h) (Or.inl ⟨by rfl, ?_⟩) ?_ ?_
                      rotate_left
                      · intro w'
                        go_simp
                        with_reducible rfl
                      rotate_left
                      · simp only [Act.put, List.setIfInBounds_toArray, List.set_cons_zero, List.set_cons_succ, i64_w, i32_w]
                        rfl
                      refine pure_ (i := 36) (N := some 61) (v := ?_) (a' := ?_) #[true, true, true, true, true, true, true, true, true, true, true, true, true, true, true, true, true, true, true, true, true, true, true, true, true, true, true, true, true, true, true, true, true, true, true, false, true, false, false, false, false, false, false, false, false] rfl rfl (any_of HT_.out (by kernel_rfl)) (fun _ _ _ h => h) (Or.inl ⟨by rfl, ?_⟩) ?_ ?_
                      rotate_left
                      · intro w'
                        go_simp
                        with_reducible rfl
                      rotate_left
                      · simp only [Act.put, List.setIfInBounds_toArray, List.set_cons_zero, List.set_cons_succ, i64_w, i32_w]
                        rfl
                      refine pure_ (i := 37) (N := some 62) (v := ?_) (a' := ?_) #[true, true, true, true, true, true, true, true, true, true, true, true, true, true, true, true, true, true, true, true, true, true, true, true, true, true, true, true, true, true, true, true, true, true, true, false, true, true, false, false, false, false, false, false, false] rfl rfl (any_of HT_.out (by kernel_rfl)) (fun _ _ _ h => h) (Or.inl ⟨by rfl, ?_⟩) ?_ ?_
                      rotate_left
                      · intro w'
                        go_simp
                        with_reducible rfl
                      rotate_left
                      · simp only [Act.put, List.setIfInBounds_toArray, List.set_cons_zero, List.set_cons_succ, i64_w, i32_w]
                        rfl
                      refine take_ (i := 35) (N := some 60) (v := ?_) (a' := ?_) #[true, true, true, true, true, true, true, true, true, true, true, true, true, true, true, true, true, true, true, true, true, true, true, true, true, true, true, true, true, true, true, true, true, true, true, true, true, true, false, false, false, false, false, false, false] rfl rfl (take_ofW HT_.out HW_.out (by kernel_rfl)) (fun _ _ _ h => h) (Or.inl ⟨by rfl, ?_⟩) hHeld ?_ ?_
                      rotate_left
                      · rintro w' ⟨s0, s1, s2, s3, s4, s5, s6, s7⟩
                        go_simp
                        with_reducible rfl
                      rotate_left
                      · simp only [Act.put, List.setIfInBounds_toArray, List.set_cons_zero, List.set_cons_succ, i64_w, i32_w]
                        rfl
                      refine pure_ (i := 38) (N := some 63) (v := ?_) (a' := ?_) #[true, true, true, true, true, true, true, true, true, true, true, true, true, true, true, true, true, true, true, true, true, true, true, true, true, true, true, true, true, true, true, true, true, true, true, true, true, true, true, false, false, false, false, false, false] rfl rfl (any_of HT_.out (by kernel_rfl)) (fun _ _ _ h => h) (Or.inl ⟨by rfl, ?_⟩) ?_ ?_
                      rotate_left
                      · intro w'
                        go_simp
                        with_reducible rfl
                      rotate_left
                      · simp only [Act.put, List.setIfInBounds_toArray, List.set_cons_zero, List.set_cons_succ, i64_w, i32_w]
                        rfl
                      refine take_ (i := 39) (N := some 64) (v := ?_) (a' := ?_) #[true, true, true, true, true, true, true, true, true, true, true, true, true, true, true, true, true, true, true, true, true, true, true, true, true, true, true, true, true, true, true, true, true, true, true, true, true, true, true, true, false, false, false, false, false] rfl rfl (take_ofW HT_.out HW_.out (by kernel_rfl)) (fun _ _ _ h => h) (Or.inl ⟨by rfl, ?_⟩) hHeld ?_ ?_
                      rotate_left
                      · rintro w' ⟨s0, s1, s2, s3, s4, s5, s6, s7⟩
                        go_simp
                        with_reducible rfl
                      rotate_left
                      · simp only [Act.put, List.setIfInBounds_toArray, List.set_cons_zero, List.set_cons_succ, i64_w, i32_w]
                        rfl
                      refine take_ (i := 40) (N := some 65) (v := ?_) (a' := ?_) #[true, true, true, true, true, true, true, true, true, true, true, true, true, true, true, true, true, true, true, true, true, true, true, true, true, true, true, true, true, true, true, true, true, true, true, true, true, true, true, true, true, false, false, false, false] rfl rfl (take_ofW HT_.out HW_.out (by kernel_rfl)) (fun _ _ _ h => h) (Or.inl ⟨by rfl, ?_⟩) hHeld ?_ ?_
                      rotate_left
                      · rintro w' ⟨s0, s1, s2, s3, s4, s5, s6, s7⟩
                        go_simp
                        with_reducible rfl
                      rotate_left
                      · simp only [Act.put, List.setIfInBounds_toArray, List.set_cons_zero, List.set_cons_succ, i64_w, i32_w]
                        rfl
                      refine last_ (i := 41) (N := some 66) #[true, true, true, true, true, true, true, true, true, true, true, true, true, true, true, true, true, true, true, true, true, true, true, true, true, true, true, true, true, true, true, true, true, true, true, true, true, true, true, true, true, true, false, false, false] rfl rfl (one_of HT_.out (by kernel_rfl)) (by decide) (fun K hK => ?_)
                      refine goes_ Tryd.func151 (by kernel_rfl) rfl #[.agg #[.int .u8 z0, .int .u8 z1, .int .i8 z2], .agg #[.int .u8 x0, .int .u8 x1, .int .i8 x2]] (by rfl) rfl rfl (by simp only [List.map_toArray, List.map_cons, List.map_nil]; rfl) ?_
                      with_reducible refine (impl_comparePairs.calls 9 z0 z1 z2 x0 x1 x2 r _ hr.out).mono ?_
                      rintro e w9 ⟨rfl, hb9⟩
                      refine ⟨_, rfl, ?_⟩
                      refine hK.out _ _ ?_
                      clear hK K
                      refine norm_ (a' := ?_) ?_ ?_
                      rotate_left
                      · show Act.put _ (some 66) _ = _
                        simp only [Act.put, List.setIfInBounds_toArray, List.set_cons_zero, List.set_cons_succ, i64_w, i32_w]
                        rfl
                      refine pure_ (i := 42) (N := some 67) (v := ?_) (a' := ?_) #[true, true, true, true, true, true, true, true, true, true, true, true, true, true, true, true, true, true, true, true, true, true, true, true, true, true, true, true, true, true, true, true, true, true, true, true, true, true, true, true, true, true, true, false, false] rfl rfl (any_of HT_.out (by kernel_rfl)) (fun _ _ _ h => h) (Or.inl ⟨by rfl, ?_⟩) ?_ ?_
                      rotate_left
                      · intro w'
                        go_simp
                        with_reducible rfl
                      rotate_left
                      · simp only [Act.put, List.setIfInBounds_toArray, List.set_cons_zero, List.set_cons_succ, i64_w, i32_w]
                        rfl
                      refine pure_ (i := 43) (N := some 68) (v := ?_) (a' := ?_) #[true, true, true, true, true, true, true, true, true, true, true, true, true, true, true, true, true, true, true, true, true, true, true, true, true, true, true, true, true, true, true, true, true, true, true, true, true, true, true, true, true, true, true, true, false] rfl rfl (any_of HT_.out (by kernel_rfl)) (fun _ _ _ h => h) (Or.inl ⟨by rfl, ?_⟩) ?_ ?_
                      rotate_left
                      · intro w'
                        go_simp
                        with_reducible rfl
                      rotate_left
                      · simp only [Act.put, List.setIfInBounds_toArray, List.set_cons_zero, List.set_cons_succ, i64_w, i32_w]
                        rfl
                      refine pure_ (i := 44) (N := some 69) (v := ?_) (a' := ?_) #[true, true, true, true, true, true, true, true, true, true, true, true, true, true, true, true, true, true, true, true, true, true, true, true, true, true, true, true, true, true, true, true, true, true, true, true, true, true, true, true, true, true, true, true, true] rfl rfl (any_of HT_.out (by kernel_rfl)) (fun _ _ _ h => h) (Or.inl ⟨by rfl, ?_⟩) ?_ ?_
                      rotate_left
                      · intro w'
                        go_simp
                        with_reducible rfl
                      rotate_left
                      · simp only [Act.put, List.setIfInBounds_toArray, List.set_cons_zero, List.set_cons_succ, i64_w, i32_w]
                        rfl
                      refine done_ (done_of HT_.out (by kernel_rfl)) ?_
                      have PA4 : Aside0 (pairAt y1 P (m + 1) = aheadB z0 z1 x0 x1) := ⟨by rw [PA3.out]; unfold aheadB; simp⟩
                      have HB9 := Aside0.mk (below_step (below_drew1 HBW.out) hb9)
                      have HB19 := Aside0.mk (below_step (below_drew1 HB1W.out) hb9)
                      clear hb9 f27 f28 f0 f1 f2 n0 n1 n2 hHeld hA hB hC hD hE hCw
                      rcases HR2.out with ⟨hAh, rfl⟩ | ⟨hAh, rfl | rfl⟩
                      rotate_left
                      · clear HR2 hr
                        have HAh := Aside0.mk hAh
                        clear hAh
                        go_wp2_with fail
                        go_ret
                        exact ⟨by rw [PF.out (by rw [PA4.out, HAh.out])]; rfl, HB9.out⟩
                      · clear HR2 hr
                        have HAh := Aside0.mk hAh
                        clear hAh
                        go_wp2_with fail
                        go_ret
                        exact ⟨by rw [PF.out (by rw [PA4.out, HAh.out])]; rfl, HB9.out⟩
                      · clear HR2 hr
                        have HAh := Aside0.mk hAh
                        clear hAh
                        go_wp2_with fail
                        go_roundw
                        case rel => exact ⟨m + 1 + 1, by omega, by go_num, ⟨HB9.out⟩, ⟨HB19.out⟩, ⟨by rw [List.range_succ, List.all_append, HA2.out, List.all_cons, PA4.out, HAh.out]; rfl⟩⟩
                        case measure => simp [intOf]; omega
                  · go_quiet (first | (go_at_call 150; exact q_same (iletter_as _ _ hA)) | (go_at_call 150; exact q_same (iletter_as _ _ hB)) | (go_at_call 85; exact q_same (within_as _ _ _ _ hC)))
                    have hD' : (x2 != 0) = true := by rw [bne, hD]; rfl
                    have HE : Aside0 (decide (0 ≤ IntKind.i8.wrap (y1 + x2)) = false) := ⟨by have := of_decide_eq_true hE; exact decide_eq_false (by omega)⟩
                    go_wp2_with fail
                    go_ret
                    exact ⟨by rw [PF.out (by rw [PA.out, hA, hB, hC, hD', HE.out]; first | rfl | simp)]; rfl, (by repeat (first | exact HB.out | apply below_alloc | apply pw_below_drewN | apply below_drew1))⟩
                · go_quiet (first | (go_at_call 150; exact q_same (iletter_as _ _ hA)) | (go_at_call 150; exact q_same (iletter_as _ _ hB)) | (go_at_call 85; exact q_same (within_as _ _ _ _ hC)))
                  have hD' : (x2 != 0) = false := by rw [bne, hD]; rfl
                  go_wp2_with fail
                  go_ret
                  exact ⟨by rw [PF.out (by rw [PA.out, hA, hB, hC, hD']; first | rfl | simp)]; rfl, (by repeat (first | exact HB.out | apply below_alloc | apply pw_below_drewN | apply below_drew1))⟩
        · have hltz : ¬ (n : Int) < (P.length : Int) := by omega
          obtain rfl : n = P.length := by omega
          go_wp2_with fail
          refine (within_calls _ _ _ _).mono ?_
          rintro e w' ⟨rfl, rfl⟩
          cases hz0 : inB y0 1 40
          · have Z0 := Aside0.mk hz0
            clear hz0
            go_wp2_with fail
            go_ret
            exact ⟨by rw [E0.out _ _ Z0.out rfl]; simp, HB.out⟩
          · have Z0 := Aside0.mk hz0
            clear hz0
            go_wp2_with fail
            refine (within_calls _ _ _ _).mono ?_
            rintro e w' ⟨rfl, rfl⟩
            obtain ⟨b, hb⟩ : ∃ b, inB y1 0 10 = b := ⟨_, rfl⟩
            have Z1 := Aside0.mk hb
            rw [hb]
            clear hb
            go_wp2_with fail
            go_ret
            exact ⟨by rw [E0.out _ _ Z0.out Z1.out, show pairsB y1 P = true from HA2.out]; simp, HB.out⟩
set_option maxRecDepth 100000
theorem rngL {L : List Int} {P : List Pr} (h : rngB L P = true) : ∀ y ∈ L, -128 ≤ y ∧ y ≤ 127 := by
  unfold rngB at h
  simp only [Bool.and_eq_true] at h
  exact fun y hy => inB_iff.1 (List.all_eq_true.1 h.1 y hy)
theorem rngP {L : List Int} {P : List Pr} (h : rngB L P = true) : ∀ p ∈ P, (0 ≤ p.f0 ∧ p.f0 ≤ 255) ∧ (0 ≤ p.f1 ∧ p.f1 ≤ 255) ∧ (-128 ≤ p.f2 ∧ p.f2 ≤ 127) := by
  unfold rngB at h
  simp only [Bool.and_eq_true] at h
  intro p hp
  have := List.all_eq_true.1 h.2 p hp
  simp only [Bool.and_eq_true] at this
  exact ⟨inB_iff.1 this.1.1, inB_iff.1 this.1.2, inB_iff.1 this.2⟩
def impl_Face_isFace.f (a0_0 a0_1 a0_2 a0_3 a0_4 a0_5 a0_6 a0_7 a0_8 a0_9 a0_10 a0_11 a0_12 a0_13 a0_14 a0_15 a0_16 a0_17 a0_18 a0_19 a0_20 a0_21 a0_22 a0_23 a0_24 a0_25 a0_26 a0_27 : Int) (l0_28 : List Pr) : Option Bool := isFaceF [a0_0, a0_1, a0_2, a0_3, a0_4, a0_5, a0_6, a0_7, a0_8, a0_9, a0_10, a0_11, a0_12, a0_13, a0_14, a0_15, a0_16, a0_17, a0_18, a0_19, a0_20, a0_21, a0_22, a0_23, a0_24, a0_25, a0_26, a0_27] l0_28
theorem impl_Face_isFace.calls (a0_0 a0_1 a0_2 a0_3 a0_4 a0_5 a0_6 a0_7 a0_8 a0_9 a0_10 a0_11 a0_12 a0_13 a0_14 a0_15 a0_16 a0_17 a0_18 a0_19 a0_20 a0_21 a0_22 a0_23 a0_24 a0_25 a0_26 a0_27 : Int) (A0_28 : Option Addr) (c0_28 : Nat) (l0_28 : List Pr) (r : Bool) (w : World) (hr0_28 : Kd.C kPr w A0_28 l0_28.length l0_28) (hc0_28 : l0_28.length ≤ c0_28) (h : impl_Face_isFace.f a0_0 a0_1 a0_2 a0_3 a0_4 a0_5 a0_6 a0_7 a0_8 a0_9 a0_10 a0_11 a0_12 a0_13 a0_14 a0_15 a0_16 a0_17 a0_18 a0_19 a0_20 a0_21 a0_22 a0_23 a0_24 a0_25 a0_26 a0_27 l0_28 = some r) :
    Calls Tryd.prog 121 #[.agg #[.int .i8 a0_0, .int .i8 a0_1, .int .i8 a0_2, .int .i8 a0_3, .int .i8 a0_4, .int .i8 a0_5, .int .i8 a0_6, .int .i8 a0_7, .int .i8 a0_8, .int .i8 a0_9, .int .i8 a0_10, .int .i8 a0_11, .int .i8 a0_12, .int .i8 a0_13, .int .i8 a0_14, .int .i8 a0_15, .int .i8 a0_16, .int .i8 a0_17, .int .i8 a0_18, .int .i8 a0_19, .int .i8 a0_20, .int .i8 a0_21, .int .i8 a0_22, .int .i8 a0_23, .int .i8 a0_24, .int .i8 a0_25, .int .i8 a0_26, .int .i8 a0_27, .slice A0_28 l0_28.length c0_28]] w fun e w' => e = .returned (.bool r) ∧ Below w.heap.size w w' := by
  unfold impl_Face_isFace.f isFaceF at h
  split at h
  · rename_i hb
    obtain rfl := Option.some.inj h
    exact isFace_calls [a0_0, a0_1, a0_2, a0_3, a0_4, a0_5, a0_6, a0_7, a0_8, a0_9, a0_10, a0_11, a0_12, a0_13, a0_14, a0_15, a0_16, a0_17, a0_18, a0_19, a0_20, a0_21, a0_22, a0_23, a0_24, a0_25, a0_26, a0_27] rfl (rngL hb) A0_28 c0_28 l0_28 (rngP hb) w hr0_28
  · cases h
def spec_l01Shape.f (s0_0 s0_1 s0_2 s0_3 s0_4 s0_5 s0_6 s0_7 s0_8 s0_9 s0_10 s0_11 s0_12 s0_13 s0_14 s0_15 s0_16 s0_17 s0_18 s0_19 s0_20 s0_21 s0_22 s0_23 s0_24 s0_25 s0_26 s0_27 : Int) (s0_28 : List Pr) : Option Bool := isFaceF [s0_0, s0_1, s0_2, s0_3, s0_4, s0_5, s0_6, s0_7, s0_8, s0_9, s0_10, s0_11, s0_12, s0_13, s0_14, s0_15, s0_16, s0_17, s0_18, s0_19, s0_20, s0_21, s0_22, s0_23, s0_24, s0_25, s0_26, s0_27] s0_28
theorem spec_l01Shape.calls (g : Nat) (s0_0 s0_1 s0_2 s0_3 s0_4 s0_5 s0_6 s0_7 s0_8 s0_9 s0_10 s0_11 s0_12 s0_13 s0_14 s0_15 s0_16 s0_17 s0_18 s0_19 s0_20 s0_21 s0_22 s0_23 s0_24 s0_25 s0_26 s0_27 : Int) (s0_28 : List Pr) (r : Bool) (w0 w : World) (hI : IsS32 w0 w g s0_0 s0_1 s0_2 s0_3 s0_4 s0_5 s0_6 s0_7 s0_8 s0_9 s0_10 s0_11 s0_12 s0_13 s0_14 s0_15 s0_16 s0_17 s0_18 s0_19 s0_20 s0_21 s0_22 s0_23 s0_24 s0_25 s0_26 s0_27 s0_28) (hB : Below w0.heap.size w0 w) (h : spec_l01Shape.f s0_0 s0_1 s0_2 s0_3 s0_4 s0_5 s0_6 s0_7 s0_8 s0_9 s0_10 s0_11 s0_12 s0_13 s0_14 s0_15 s0_16 s0_17 s0_18 s0_19 s0_20 s0_21 s0_22 s0_23 s0_24 s0_25 s0_26 s0_27 s0_28 = some r) :
    Calls Tryd.prog 117 #[.pointer (some ⟨g, 0, none⟩)] w fun e w' => e = .returned (.bool r) ∧ IsS32 w0 w' g s0_0 s0_1 s0_2 s0_3 s0_4 s0_5 s0_6 s0_7 s0_8 s0_9 s0_10 s0_11 s0_12 s0_13 s0_14 s0_15 s0_16 s0_17 s0_18 s0_19 s0_20 s0_21 s0_22 s0_23 s0_24 s0_25 s0_26 s0_27 s0_28 ∧ Below w0.heap.size w0 w' ∧ KeepBut w w' g none := by
  unfold spec_l01Shape.f isFaceF at h
  split at h
  · rename_i hb
    obtain rfl := Option.some.inj h
    have hI' := hI
    obtain ⟨A, c, hg, hge, hr⟩ := hI
    exact (l01Shape_calls g [s0_0, s0_1, s0_2, s0_3, s0_4, s0_5, s0_6, s0_7, s0_8, s0_9, s0_10, s0_11, s0_12, s0_13, s0_14, s0_15, s0_16, s0_17, s0_18, s0_19, s0_20, s0_21, s0_22, s0_23, s0_24, s0_25, s0_26, s0_27] rfl (rngL hb) A c s0_28 (rngP hb) w hg (Kd.C_below hr hB)).mono fun e w' ⟨he, hb'⟩ => ⟨he, IsS32.below hI' hb', below_step hB hb', KeepBut.of_below hb' g none⟩
  · cases h
end Go.Proofs.YticjkfacdmmopaaDoor.Ext
