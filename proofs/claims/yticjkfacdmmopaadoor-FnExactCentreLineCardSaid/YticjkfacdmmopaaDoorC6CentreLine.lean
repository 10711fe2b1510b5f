/- Contracts and plain laws of functions of the given program; no conditions beside those in the theorems. -/
import Derived.Test.YticjkfacdmmopaaDoorC5CentreLine
import Derived.Test.YticjkfacdmmopaaDoorC2CentreLine
import Derived.Test.YticjkfacdmmopaaDoorC4CentreLine
import Derived.Test.YticjkfacdmmopaaDoorC3CentreLine
import Derived.Test.YticjkfacdmmopaaDoorC0CentreLine
import Derived.Deep.Slices
namespace Go.Proofs.YticjkfacdmmopaaDoor.Pure
open Go.RowKit Go.Proofs.YticjkfacdmmopaaDoor.Ext Go.Proofs.YticjkfacdmmopaaDoor.Q Go.Proofs.YticjkfacdmmopaaDoor.Txt Go.Proofs.YticjkfacdmmopaaDoor.Face Go.Proofs.YticjkfacdmmopaaDoorW.PrintWords Go.Proofs.YticjkfacdmmopaaDoorW.PrintLast Go.Proofs.YticjkfacdmmopaaDoorW.PrintMore
set_option linter.unusedVariables false
set_option linter.unusedSimpArgs false
set_option maxRecDepth 100000
theorem szFace_eq (L : List Int) (lp : List LP) (hp : lp.length ≤ 9223372036854775807) : laws_szFace.f (rd L 0) (rd L 1) (rd L 2) (rd L 3) (rd L 4) (rd L 5) (rd L 6) (rd L 7) (rd L 8) (rd L 9) (rd L 10) (rd L 11) (rd L 12) (rd L 13) (rd L 14) (rd L 15) (rd L 16) (rd L 17) (rd L 18) (rd L 19) (rd L 20) (rd L 21) (rd L 22) (rd L 23) (rd L 24) (rd L 25) (rd L 26) (rd L 27) lp 1048576 = some (if 1048576 < lp.length then -1 else 1048576 - (lp.length : Int)) := by
  unfold laws_szFace.f laws_szPairS.f
  rw [w64 (x := 1048576 - (lp.length : Int)) (by omega) (by omega)]
  by_cases h : 1048576 < lp.length
  · rw [if_pos (by omega), if_pos h, Option.bind_some, if_pos (by omega)]
  · rw [if_neg (by omega), if_neg h, Option.bind_some, if_neg (by omega)]
theorem toFace_eq (L : List Int) (lp : List LP) (hp : lp.length ≤ 1048576) : laws_toFace.f (rd L 0) (rd L 1) (rd L 2) (rd L 3) (rd L 4) (rd L 5) (rd L 6) (rd L 7) (rd L 8) (rd L 9) (rd L 10) (rd L 11) (rd L 12) (rd L 13) (rd L 14) (rd L 15) (rd L 16) (rd L 17) (rd L 18) (rd L 19) (rd L 20) (rd L 21) (rd L 22) (rd L 23) (rd L 24) (rd L 25) (rd L 26) (rd L 27) lp = some (rd L 0, rd L 1, rd L 2, rd L 3, rd L 4, rd L 5, rd L 6, rd L 7, rd L 8, rd L 9, rd L 10, rd L 11, rd L 12, rd L 13, rd L 14, rd L 15, rd L 16, rd L 17, rd L 18, rd L 19, rd L 20, rd L 21, rd L 22, rd L 23, rd L 24, rd L 25, rd L 26, rd L 27, lp.map toP) := by
  unfold laws_toFace.f
  rw [if_pos hp]
theorem eq26_l0 (L : List Int) : ∀ (d k n : Nat), n + d = 26 → d < k → laws_eqInt8A26.l0 k n (rd L 0) (rd L 1) (rd L 2) (rd L 3) (rd L 4) (rd L 5) (rd L 6) (rd L 7) (rd L 8) (rd L 9) (rd L 10) (rd L 11) (rd L 12) (rd L 13) (rd L 14) (rd L 15) (rd L 16) (rd L 17) (rd L 18) (rd L 19) (rd L 20) (rd L 21) (rd L 22) (rd L 23) (rd L 24) (rd L 25) (rd L 0) (rd L 1) (rd L 2) (rd L 3) (rd L 4) (rd L 5) (rd L 6) (rd L 7) (rd L 8) (rd L 9) (rd L 10) (rd L 11) (rd L 12) (rd L 13) (rd L 14) (rd L 15) (rd L 16) (rd L 17) (rd L 18) (rd L 19) (rd L 20) (rd L 21) (rd L 22) (rd L 23) (rd L 24) (rd L 25) = some true
  | 0, k, n, hd, hk => by
    obtain ⟨k, rfl⟩ := some_k hk
    rw [laws_eqInt8A26.l0, if_neg (by omega)]
  | d + 1, k, n, hd, hk => by
    obtain ⟨k, rfl⟩ := some_k hk
    rw [laws_eqInt8A26.l0, if_pos (by omega), if_pos (by omega), if_pos rfl, wrap_succ n (by omega)]
    exact eq26_l0 L d k (n + 1) (by omega) (by omega)
theorem eqPairS_l0 (P : List Pr) (hP : P.length ≤ 4611686018427387904) : ∀ (d k n : Nat), n + d = P.length → d < k → laws_eqPairS.l0 k P P n = some true
  | 0, k, n, hd, hk => by
    obtain ⟨k, rfl⟩ := some_k hk
    rw [laws_eqPairS.l0, if_neg (by omega)]
  | d + 1, k, n, hd, hk => by
    obtain ⟨k, rfl⟩ := some_k hk
    rw [laws_eqPairS.l0, if_pos (by omega), if_pos (by omega), if_pos (by omega), laws_eqPair.f, if_pos rfl, if_pos rfl, if_pos rfl, Option.bind_some, if_pos rfl, wrap_succ n (by omega)]
    exact eqPairS_l0 P hP d k (n + 1) (by omega) (by omega)
theorem eqFace_self (L : List Int) (P : List Pr) (hP : P.length ≤ 1048576) {k : Nat} (hk : 1048577 < k) : laws_eqFace.f k (rd L 0) (rd L 1) (rd L 2) (rd L 3) (rd L 4) (rd L 5) (rd L 6) (rd L 7) (rd L 8) (rd L 9) (rd L 10) (rd L 11) (rd L 12) (rd L 13) (rd L 14) (rd L 15) (rd L 16) (rd L 17) (rd L 18) (rd L 19) (rd L 20) (rd L 21) (rd L 22) (rd L 23) (rd L 24) (rd L 25) (rd L 26) (rd L 27) P (rd L 0) (rd L 1) (rd L 2) (rd L 3) (rd L 4) (rd L 5) (rd L 6) (rd L 7) (rd L 8) (rd L 9) (rd L 10) (rd L 11) (rd L 12) (rd L 13) (rd L 14) (rd L 15) (rd L 16) (rd L 17) (rd L 18) (rd L 19) (rd L 20) (rd L 21) (rd L 22) (rd L 23) (rd L 24) (rd L 25) (rd L 26) (rd L 27) P = some true := by
  unfold laws_eqFace.f laws_eqInt8A26.f laws_eqPairS.f
  have h1 := eq26_l0 L 26 k 0 (by omega) (by omega)
  have h2 := eqPairS_l0 P (by omega) P.length k 0 (by omega) (by omega)
  rw [show ((0 : Nat) : Int) = 0 from rfl] at h1 h2
  rw [h1, Option.bind_some, if_pos rfl, if_pos rfl, if_pos rfl, if_pos rfl, h2, Option.bind_some, if_pos rfl]
theorem size_le {lp : List LP} (h : lp.length ≤ 1048576) : (lp.map toP).length ≤ 1048576 := by rwa [List.length_map]
end Go.Proofs.YticjkfacdmmopaaDoor.Pure


namespace Go.Proofs.YticjkfacdmmopaaDoor.Ext
end Go.Proofs.YticjkfacdmmopaaDoor.Ext
namespace Go.Proofs.YticjkfacdmmopaaDoor.Q
open Go.Proofs.YticjkfacdmmopaaDoor.Ext
open Go.RowKit Go.Proofs.YticjkfacdmmopaaDoorW.PrintWords Go.Proofs.YticjkfacdmmopaaDoorW.PrintLast Go.Proofs.YticjkfacdmmopaaDoorW.PrintMore
attribute [local go_sem] max2_int min2_int max_two min_two max_three min_three max_four min_four   -- for this text's walks alone
set_option linter.unusedVariables false
set_option linter.unusedSimpArgs false

/-! ### laws_FnExactCentreLine: function 5 -/
def laws_FnExactCentreLine.j0 : Nat → Bool → Int → Int → Int → Int → Int → Int → Int → Int → Int → Int → Int → Int → Int → Int → Int → Int → Int → Int → Int → Int → Int → Int → Int → Int → Int → Int → Int → Int → List (S139) → Int → Int → Int → Int → Int → Int → Int → Int → Int → Int → Int → Int → Int → Int → Int → Int → Int → Int → Int → Int → Int → Int → Int → Int → Int → Int → Int → Int → List (S137) → Option (Bool)
  | 0, _, _, _, _, _, _, _, _, _, _, _, _, _, _, _, _, _, _, _, _, _, _, _, _, _, _, _, _, _, _, _, _, _, _, _, _, _, _, _, _, _, _, _, _, _, _, _, _, _, _, _, _, _, _, _, _, _, _, _ => none
  | k + 1, x45, x438000, x438001, x438002, x438003, x438004, x438005, x438006, x438007, x438008, x438009, x438010, x438011, x438012, x438013, x438014, x438015, x438016, x438017, x438018, x438019, x438020, x438021, x438022, x438023, x438024, x438025, x438026, x438027, x438028, x504000, x504001, x504002, x504003, x504004, x504005, x504006, x504007, x504008, x504009, x504010, x504011, x504012, x504013, x504014, x504015, x504016, x504017, x504018, x504019, x504020, x504021, x504022, x504023, x504024, x504025, x504026, x504027, x504028 => if x45 = true then (some false) else ((laws_toFace.f x438000 x438001 x438002 x438003 x438004 x438005 x438006 x438007 x438008 x438009 x438010 x438011 x438012 x438013 x438014 x438015 x438016 x438017 x438018 x438019 x438020 x438021 x438022 x438023 x438024 x438025 x438026 x438027 x438028).bind fun bt506 => ((laws_eqFace.f k x504000 x504001 x504002 x504003 x504004 x504005 x504006 x504007 x504008 x504009 x504010 x504011 x504012 x504013 x504014 x504015 x504016 x504017 x504018 x504019 x504020 x504021 x504022 x504023 x504024 x504025 x504026 x504027 x504028 bt506.1 bt506.2.1 bt506.2.2.1 bt506.2.2.2.1 bt506.2.2.2.2.1 bt506.2.2.2.2.2.1 bt506.2.2.2.2.2.2.1 bt506.2.2.2.2.2.2.2.1 bt506.2.2.2.2.2.2.2.2.1 bt506.2.2.2.2.2.2.2.2.2.1 bt506.2.2.2.2.2.2.2.2.2.2.1 bt506.2.2.2.2.2.2.2.2.2.2.2.1 bt506.2.2.2.2.2.2.2.2.2.2.2.2.1 bt506.2.2.2.2.2.2.2.2.2.2.2.2.2.1 bt506.2.2.2.2.2.2.2.2.2.2.2.2.2.2.1 bt506.2.2.2.2.2.2.2.2.2.2.2.2.2.2.2.1 bt506.2.2.2.2.2.2.2.2.2.2.2.2.2.2.2.2.1 bt506.2.2.2.2.2.2.2.2.2.2.2.2.2.2.2.2.2.1 bt506.2.2.2.2.2.2.2.2.2.2.2.2.2.2.2.2.2.2.1 bt506.2.2.2.2.2.2.2.2.2.2.2.2.2.2.2.2.2.2.2.1 bt506.2.2.2.2.2.2.2.2.2.2.2.2.2.2.2.2.2.2.2.2.1 bt506.2.2.2.2.2.2.2.2.2.2.2.2.2.2.2.2.2.2.2.2.2.1 bt506.2.2.2.2.2.2.2.2.2.2.2.2.2.2.2.2.2.2.2.2.2.2.1 bt506.2.2.2.2.2.2.2.2.2.2.2.2.2.2.2.2.2.2.2.2.2.2.2.1 bt506.2.2.2.2.2.2.2.2.2.2.2.2.2.2.2.2.2.2.2.2.2.2.2.2.1 bt506.2.2.2.2.2.2.2.2.2.2.2.2.2.2.2.2.2.2.2.2.2.2.2.2.2.1 bt506.2.2.2.2.2.2.2.2.2.2.2.2.2.2.2.2.2.2.2.2.2.2.2.2.2.2.1 bt506.2.2.2.2.2.2.2.2.2.2.2.2.2.2.2.2.2.2.2.2.2.2.2.2.2.2.2.1 bt506.2.2.2.2.2.2.2.2.2.2.2.2.2.2.2.2.2.2.2.2.2.2.2.2.2.2.2.2).bind fun t537 => (if t537 = true then (some true) else (some false))))
def laws_FnExactCentreLine.f (k : Nat) (a0_0 a0_1 a0_2 a0_3 a0_4 a0_5 a0_6 a0_7 a0_8 a0_9 a0_10 a0_11 a0_12 a0_13 a0_14 a0_15 a0_16 a0_17 a0_18 a0_19 a0_20 a0_21 a0_22 a0_23 a0_24 a0_25 a0_26 a0_27 : Int) (l0_28 : List (S139)) (a1 : ByteArray) (a2 : Int) : Option (Bool) := if (a1.size : Int) > 1048576 then (some true) else ((laws_szFace.f a0_0 a0_1 a0_2 a0_3 a0_4 a0_5 a0_6 a0_7 a0_8 a0_9 a0_10 a0_11 a0_12 a0_13 a0_14 a0_15 a0_16 a0_17 a0_18 a0_19 a0_20 a0_21 a0_22 a0_23 a0_24 a0_25 a0_26 a0_27 l0_28 1048576).bind fun t438 => (if t438 < 0 then (some true) else ((laws_toFace.f a0_0 a0_1 a0_2 a0_3 a0_4 a0_5 a0_6 a0_7 a0_8 a0_9 a0_10 a0_11 a0_12 a0_13 a0_14 a0_15 a0_16 a0_17 a0_18 a0_19 a0_20 a0_21 a0_22 a0_23 a0_24 a0_25 a0_26 a0_27 l0_28).bind fun bt439 => ((spec_CentreLine.f k bt439.1 bt439.2.1 bt439.2.2.1 bt439.2.2.2.1 bt439.2.2.2.2.1 bt439.2.2.2.2.2.1 bt439.2.2.2.2.2.2.1 bt439.2.2.2.2.2.2.2.1 bt439.2.2.2.2.2.2.2.2.1 bt439.2.2.2.2.2.2.2.2.2.1 bt439.2.2.2.2.2.2.2.2.2.2.1 bt439.2.2.2.2.2.2.2.2.2.2.2.1 bt439.2.2.2.2.2.2.2.2.2.2.2.2.1 bt439.2.2.2.2.2.2.2.2.2.2.2.2.2.1 bt439.2.2.2.2.2.2.2.2.2.2.2.2.2.2.1 bt439.2.2.2.2.2.2.2.2.2.2.2.2.2.2.2.1 bt439.2.2.2.2.2.2.2.2.2.2.2.2.2.2.2.2.1 bt439.2.2.2.2.2.2.2.2.2.2.2.2.2.2.2.2.2.1 bt439.2.2.2.2.2.2.2.2.2.2.2.2.2.2.2.2.2.2.1 bt439.2.2.2.2.2.2.2.2.2.2.2.2.2.2.2.2.2.2.2.1 bt439.2.2.2.2.2.2.2.2.2.2.2.2.2.2.2.2.2.2.2.2.1 bt439.2.2.2.2.2.2.2.2.2.2.2.2.2.2.2.2.2.2.2.2.2.1 bt439.2.2.2.2.2.2.2.2.2.2.2.2.2.2.2.2.2.2.2.2.2.2.1 bt439.2.2.2.2.2.2.2.2.2.2.2.2.2.2.2.2.2.2.2.2.2.2.2.1 bt439.2.2.2.2.2.2.2.2.2.2.2.2.2.2.2.2.2.2.2.2.2.2.2.2.1 bt439.2.2.2.2.2.2.2.2.2.2.2.2.2.2.2.2.2.2.2.2.2.2.2.2.2.1 bt439.2.2.2.2.2.2.2.2.2.2.2.2.2.2.2.2.2.2.2.2.2.2.2.2.2.2.1 bt439.2.2.2.2.2.2.2.2.2.2.2.2.2.2.2.2.2.2.2.2.2.2.2.2.2.2.2.1 bt439.2.2.2.2.2.2.2.2.2.2.2.2.2.2.2.2.2.2.2.2.2.2.2.2.2.2.2.2 a1 a2).bind fun bt470 => ((laws_toFace.f a0_0 a0_1 a0_2 a0_3 a0_4 a0_5 a0_6 a0_7 a0_8 a0_9 a0_10 a0_11 a0_12 a0_13 a0_14 a0_15 a0_16 a0_17 a0_18 a0_19 a0_20 a0_21 a0_22 a0_23 a0_24 a0_25 a0_26 a0_27 l0_28).bind fun bt472 => ((impl_CentreLine.f k bt472.1 bt472.2.1 bt472.2.2.1 bt472.2.2.2.1 bt472.2.2.2.2.1 bt472.2.2.2.2.2.1 bt472.2.2.2.2.2.2.1 bt472.2.2.2.2.2.2.2.1 bt472.2.2.2.2.2.2.2.2.1 bt472.2.2.2.2.2.2.2.2.2.1 bt472.2.2.2.2.2.2.2.2.2.2.1 bt472.2.2.2.2.2.2.2.2.2.2.2.1 bt472.2.2.2.2.2.2.2.2.2.2.2.2.1 bt472.2.2.2.2.2.2.2.2.2.2.2.2.2.1 bt472.2.2.2.2.2.2.2.2.2.2.2.2.2.2.1 bt472.2.2.2.2.2.2.2.2.2.2.2.2.2.2.2.1 bt472.2.2.2.2.2.2.2.2.2.2.2.2.2.2.2.2.1 bt472.2.2.2.2.2.2.2.2.2.2.2.2.2.2.2.2.2.1 bt472.2.2.2.2.2.2.2.2.2.2.2.2.2.2.2.2.2.2.1 bt472.2.2.2.2.2.2.2.2.2.2.2.2.2.2.2.2.2.2.2.1 bt472.2.2.2.2.2.2.2.2.2.2.2.2.2.2.2.2.2.2.2.2.1 bt472.2.2.2.2.2.2.2.2.2.2.2.2.2.2.2.2.2.2.2.2.2.1 bt472.2.2.2.2.2.2.2.2.2.2.2.2.2.2.2.2.2.2.2.2.2.2.1 bt472.2.2.2.2.2.2.2.2.2.2.2.2.2.2.2.2.2.2.2.2.2.2.2.1 bt472.2.2.2.2.2.2.2.2.2.2.2.2.2.2.2.2.2.2.2.2.2.2.2.2.1 bt472.2.2.2.2.2.2.2.2.2.2.2.2.2.2.2.2.2.2.2.2.2.2.2.2.2.1 bt472.2.2.2.2.2.2.2.2.2.2.2.2.2.2.2.2.2.2.2.2.2.2.2.2.2.2.1 bt472.2.2.2.2.2.2.2.2.2.2.2.2.2.2.2.2.2.2.2.2.2.2.2.2.2.2.2.1 bt472.2.2.2.2.2.2.2.2.2.2.2.2.2.2.2.2.2.2.2.2.2.2.2.2.2.2.2.2 a1 a2).bind fun bt504 => (if bt504.1 = bt470.1 then (laws_FnExactCentreLine.j0 k (bt504.2 != bt470.2) a0_0 a0_1 a0_2 a0_3 a0_4 a0_5 a0_6 a0_7 a0_8 a0_9 a0_10 a0_11 a0_12 a0_13 a0_14 a0_15 a0_16 a0_17 a0_18 a0_19 a0_20 a0_21 a0_22 a0_23 a0_24 a0_25 a0_26 a0_27 l0_28 bt472.1 bt472.2.1 bt472.2.2.1 bt472.2.2.2.1 bt472.2.2.2.2.1 bt472.2.2.2.2.2.1 bt472.2.2.2.2.2.2.1 bt472.2.2.2.2.2.2.2.1 bt472.2.2.2.2.2.2.2.2.1 bt472.2.2.2.2.2.2.2.2.2.1 bt472.2.2.2.2.2.2.2.2.2.2.1 bt472.2.2.2.2.2.2.2.2.2.2.2.1 bt472.2.2.2.2.2.2.2.2.2.2.2.2.1 bt472.2.2.2.2.2.2.2.2.2.2.2.2.2.1 bt472.2.2.2.2.2.2.2.2.2.2.2.2.2.2.1 bt472.2.2.2.2.2.2.2.2.2.2.2.2.2.2.2.1 bt472.2.2.2.2.2.2.2.2.2.2.2.2.2.2.2.2.1 bt472.2.2.2.2.2.2.2.2.2.2.2.2.2.2.2.2.2.1 bt472.2.2.2.2.2.2.2.2.2.2.2.2.2.2.2.2.2.2.1 bt472.2.2.2.2.2.2.2.2.2.2.2.2.2.2.2.2.2.2.2.1 bt472.2.2.2.2.2.2.2.2.2.2.2.2.2.2.2.2.2.2.2.2.1 bt472.2.2.2.2.2.2.2.2.2.2.2.2.2.2.2.2.2.2.2.2.2.1 bt472.2.2.2.2.2.2.2.2.2.2.2.2.2.2.2.2.2.2.2.2.2.2.1 bt472.2.2.2.2.2.2.2.2.2.2.2.2.2.2.2.2.2.2.2.2.2.2.2.1 bt472.2.2.2.2.2.2.2.2.2.2.2.2.2.2.2.2.2.2.2.2.2.2.2.2.1 bt472.2.2.2.2.2.2.2.2.2.2.2.2.2.2.2.2.2.2.2.2.2.2.2.2.2.1 bt472.2.2.2.2.2.2.2.2.2.2.2.2.2.2.2.2.2.2.2.2.2.2.2.2.2.2.1 bt472.2.2.2.2.2.2.2.2.2.2.2.2.2.2.2.2.2.2.2.2.2.2.2.2.2.2.2.1 bt472.2.2.2.2.2.2.2.2.2.2.2.2.2.2.2.2.2.2.2.2.2.2.2.2.2.2.2.2) else (laws_FnExactCentreLine.j0 k true a0_0 a0_1 a0_2 a0_3 a0_4 a0_5 a0_6 a0_7 a0_8 a0_9 a0_10 a0_11 a0_12 a0_13 a0_14 a0_15 a0_16 a0_17 a0_18 a0_19 a0_20 a0_21 a0_22 a0_23 a0_24 a0_25 a0_26 a0_27 l0_28 bt472.1 bt472.2.1 bt472.2.2.1 bt472.2.2.2.1 bt472.2.2.2.2.1 bt472.2.2.2.2.2.1 bt472.2.2.2.2.2.2.1 bt472.2.2.2.2.2.2.2.1 bt472.2.2.2.2.2.2.2.2.1 bt472.2.2.2.2.2.2.2.2.2.1 bt472.2.2.2.2.2.2.2.2.2.2.1 bt472.2.2.2.2.2.2.2.2.2.2.2.1 bt472.2.2.2.2.2.2.2.2.2.2.2.2.1 bt472.2.2.2.2.2.2.2.2.2.2.2.2.2.1 bt472.2.2.2.2.2.2.2.2.2.2.2.2.2.2.1 bt472.2.2.2.2.2.2.2.2.2.2.2.2.2.2.2.1 bt472.2.2.2.2.2.2.2.2.2.2.2.2.2.2.2.2.1 bt472.2.2.2.2.2.2.2.2.2.2.2.2.2.2.2.2.2.1 bt472.2.2.2.2.2.2.2.2.2.2.2.2.2.2.2.2.2.2.1 bt472.2.2.2.2.2.2.2.2.2.2.2.2.2.2.2.2.2.2.2.1 bt472.2.2.2.2.2.2.2.2.2.2.2.2.2.2.2.2.2.2.2.2.1 bt472.2.2.2.2.2.2.2.2.2.2.2.2.2.2.2.2.2.2.2.2.2.1 bt472.2.2.2.2.2.2.2.2.2.2.2.2.2.2.2.2.2.2.2.2.2.2.1 bt472.2.2.2.2.2.2.2.2.2.2.2.2.2.2.2.2.2.2.2.2.2.2.2.1 bt472.2.2.2.2.2.2.2.2.2.2.2.2.2.2.2.2.2.2.2.2.2.2.2.2.1 bt472.2.2.2.2.2.2.2.2.2.2.2.2.2.2.2.2.2.2.2.2.2.2.2.2.2.1 bt472.2.2.2.2.2.2.2.2.2.2.2.2.2.2.2.2.2.2.2.2.2.2.2.2.2.2.1 bt472.2.2.2.2.2.2.2.2.2.2.2.2.2.2.2.2.2.2.2.2.2.2.2.2.2.2.2.1 bt472.2.2.2.2.2.2.2.2.2.2.2.2.2.2.2.2.2.2.2.2.2.2.2.2.2.2.2.2))))))))
theorem laws_FnExactCentreLine.mono_l : ∀ k, (∀ y0 y1 y2 y3 y4 y5 y6 y7 y8 y9 y10 y11 y12 y13 y14 y15 y16 y17 y18 y19 y20 y21 y22 y23 y24 y25 y26 y27 y28 y29 y30 y31 y32 y33 y34 y35 y36 y37 y38 y39 y40 y41 y42 y43 y44 y45 y46 y47 y48 y49 y50 y51 y52 y53 y54 y55 y56 y57 y58, LeO (laws_FnExactCentreLine.j0 k y0 y1 y2 y3 y4 y5 y6 y7 y8 y9 y10 y11 y12 y13 y14 y15 y16 y17 y18 y19 y20 y21 y22 y23 y24 y25 y26 y27 y28 y29 y30 y31 y32 y33 y34 y35 y36 y37 y38 y39 y40 y41 y42 y43 y44 y45 y46 y47 y48 y49 y50 y51 y52 y53 y54 y55 y56 y57 y58) (laws_FnExactCentreLine.j0 (k + 1) y0 y1 y2 y3 y4 y5 y6 y7 y8 y9 y10 y11 y12 y13 y14 y15 y16 y17 y18 y19 y20 y21 y22 y23 y24 y25 y26 y27 y28 y29 y30 y31 y32 y33 y34 y35 y36 y37 y38 y39 y40 y41 y42 y43 y44 y45 y46 y47 y48 y49 y50 y51 y52 y53 y54 y55 y56 y57 y58))
  | 0 => fun _ _ _ _ _ _ _ _ _ _ _ _ _ _ _ _ _ _ _ _ _ _ _ _ _ _ _ _ _ _ _ _ _ _ _ _ _ _ _ _ _ _ _ _ _ _ _ _ _ _ _ _ _ _ _ _ _ _ _ r h => by simp [laws_FnExactCentreLine.j0] at h
  | k + 1 => by
    have ih0 := laws_FnExactCentreLine.mono_l k
    · intro y0 y1 y2 y3 y4 y5 y6 y7 y8 y9 y10 y11 y12 y13 y14 y15 y16 y17 y18 y19 y20 y21 y22 y23 y24 y25 y26 y27 y28 y29 y30 y31 y32 y33 y34 y35 y36 y37 y38 y39 y40 y41 y42 y43 y44 y45 y46 y47 y48 y49 y50 y51 y52 y53 y54 y55 y56 y57 y58
      unfold laws_FnExactCentreLine.j0
      repeat' first
      | (with_reducible exact ih0 _ _ _ _ _ _ _ _ _ _ _ _ _ _ _ _ _ _ _ _ _ _ _ _ _ _ _ _ _ _ _ _ _ _ _ _ _ _ _ _ _ _ _ _ _ _ _ _ _ _ _ _ _ _ _ _ _ _ _)
      | (with_reducible exact impl_CentreLine.mono _ _ _ _ _ _ _ _ _ _ _ _ _ _ _ _ _ _ _ _ _ _ _ _ _ _ _ _ _ _ _ _)
      | (with_reducible exact laws_eqFace.mono _ _ _ _ _ _ _ _ _ _ _ _ _ _ _ _ _ _ _ _ _ _ _ _ _ _ _ _ _ _ _ _ _ _ _ _ _ _ _ _ _ _ _ _ _ _ _ _ _ _ _ _ _ _ _ _ _ _ _)
      | (with_reducible exact spec_CentreLine.mono _ _ _ _ _ _ _ _ _ _ _ _ _ _ _ _ _ _ _ _ _ _ _ _ _ _ _ _ _ _ _ _)
      | (with_reducible exact LeO.refl _)
      | (with_reducible exact LeO.none _)
      | (with_reducible refine LeO.ite ?_ ?_)
      | (with_reducible refine LeO.bind ?_ (fun _ => ?_))
      | exact ih0 _ _ _ _ _ _ _ _ _ _ _ _ _ _ _ _ _ _ _ _ _ _ _ _ _ _ _ _ _ _ _ _ _ _ _ _ _ _ _ _ _ _ _ _ _ _ _ _ _ _ _ _ _ _ _ _ _ _ _
      | exact impl_CentreLine.mono _ _ _ _ _ _ _ _ _ _ _ _ _ _ _ _ _ _ _ _ _ _ _ _ _ _ _ _ _ _ _ _
      | exact laws_eqFace.mono _ _ _ _ _ _ _ _ _ _ _ _ _ _ _ _ _ _ _ _ _ _ _ _ _ _ _ _ _ _ _ _ _ _ _ _ _ _ _ _ _ _ _ _ _ _ _ _ _ _ _ _ _ _ _ _ _ _ _
      | exact spec_CentreLine.mono _ _ _ _ _ _ _ _ _ _ _ _ _ _ _ _ _ _ _ _ _ _ _ _ _ _ _ _ _ _ _ _
      | exact LeO.none _
      | refine LeO.ite ?_ ?_
      | refine LeO.bind ?_ (fun _ => ?_)
theorem laws_FnExactCentreLine.mono : ∀ a0 a1 a2 a3 a4 a5 a6 a7 a8 a9 a10 a11 a12 a13 a14 a15 a16 a17 a18 a19 a20 a21 a22 a23 a24 a25 a26 a27 a28 a29 a30 k, LeO (laws_FnExactCentreLine.f k a0 a1 a2 a3 a4 a5 a6 a7 a8 a9 a10 a11 a12 a13 a14 a15 a16 a17 a18 a19 a20 a21 a22 a23 a24 a25 a26 a27 a28 a29 a30) (laws_FnExactCentreLine.f (k + 1) a0 a1 a2 a3 a4 a5 a6 a7 a8 a9 a10 a11 a12 a13 a14 a15 a16 a17 a18 a19 a20 a21 a22 a23 a24 a25 a26 a27 a28 a29 a30) := by
  intro a0 a1 a2 a3 a4 a5 a6 a7 a8 a9 a10 a11 a12 a13 a14 a15 a16 a17 a18 a19 a20 a21 a22 a23 a24 a25 a26 a27 a28 a29 a30 k
  have ih0 := laws_FnExactCentreLine.mono_l k
  unfold laws_FnExactCentreLine.f
  repeat' first
      | (with_reducible exact ih0 _ _ _ _ _ _ _ _ _ _ _ _ _ _ _ _ _ _ _ _ _ _ _ _ _ _ _ _ _ _ _ _ _ _ _ _ _ _ _ _ _ _ _ _ _ _ _ _ _ _ _ _ _ _ _ _ _ _ _)
      | (with_reducible exact impl_CentreLine.mono _ _ _ _ _ _ _ _ _ _ _ _ _ _ _ _ _ _ _ _ _ _ _ _ _ _ _ _ _ _ _ _)
      | (with_reducible exact laws_eqFace.mono _ _ _ _ _ _ _ _ _ _ _ _ _ _ _ _ _ _ _ _ _ _ _ _ _ _ _ _ _ _ _ _ _ _ _ _ _ _ _ _ _ _ _ _ _ _ _ _ _ _ _ _ _ _ _ _ _ _ _)
      | (with_reducible exact spec_CentreLine.mono _ _ _ _ _ _ _ _ _ _ _ _ _ _ _ _ _ _ _ _ _ _ _ _ _ _ _ _ _ _ _ _)
      | (with_reducible exact LeO.refl _)
      | (with_reducible exact LeO.none _)
      | (with_reducible refine LeO.ite ?_ ?_)
      | (with_reducible refine LeO.bind ?_ (fun _ => ?_))
      | exact ih0 _ _ _ _ _ _ _ _ _ _ _ _ _ _ _ _ _ _ _ _ _ _ _ _ _ _ _ _ _ _ _ _ _ _ _ _ _ _ _ _ _ _ _ _ _ _ _ _ _ _ _ _ _ _ _ _ _ _ _
      | exact impl_CentreLine.mono _ _ _ _ _ _ _ _ _ _ _ _ _ _ _ _ _ _ _ _ _ _ _ _ _ _ _ _ _ _ _ _
      | exact laws_eqFace.mono _ _ _ _ _ _ _ _ _ _ _ _ _ _ _ _ _ _ _ _ _ _ _ _ _ _ _ _ _ _ _ _ _ _ _ _ _ _ _ _ _ _ _ _ _ _ _ _ _ _ _ _ _ _ _ _ _ _ _
      | exact spec_CentreLine.mono _ _ _ _ _ _ _ _ _ _ _ _ _ _ _ _ _ _ _ _ _ _ _ _ _ _ _ _ _ _ _ _
      | exact LeO.none _
      | refine LeO.ite ?_ ?_
      | refine LeO.bind ?_ (fun _ => ?_)
set_option maxHeartbeats 8000000 in
set_option maxRecDepth 100000 in
theorem laws_FnExactCentreLine.calls (k : Nat) (a0_0 a0_1 a0_2 a0_3 a0_4 a0_5 a0_6 a0_7 a0_8 a0_9 a0_10 a0_11 a0_12 a0_13 a0_14 a0_15 a0_16 a0_17 a0_18 a0_19 a0_20 a0_21 a0_22 a0_23 a0_24 a0_25 a0_26 a0_27 : Int) (A0_28 : Option Addr) (c0_28 : Nat) (l0_28 : List (S139)) (a1 : ByteArray) (a2 : Int) (r : Bool) (w : World) (hr0_28 : Kd.C k139 w A0_28 l0_28.length l0_28) (hc0_28 : l0_28.length ≤ c0_28) (hG : GlobM w) (h : laws_FnExactCentreLine.f k a0_0 a0_1 a0_2 a0_3 a0_4 a0_5 a0_6 a0_7 a0_8 a0_9 a0_10 a0_11 a0_12 a0_13 a0_14 a0_15 a0_16 a0_17 a0_18 a0_19 a0_20 a0_21 a0_22 a0_23 a0_24 a0_25 a0_26 a0_27 l0_28 a1 a2 = some r) :
    Calls Tryd.prog 5 #[.agg #[.int .i8 a0_0, .int .i8 a0_1, .int .i8 a0_2, .int .i8 a0_3, .int .i8 a0_4, .int .i8 a0_5, .int .i8 a0_6, .int .i8 a0_7, .int .i8 a0_8, .int .i8 a0_9, .int .i8 a0_10, .int .i8 a0_11, .int .i8 a0_12, .int .i8 a0_13, .int .i8 a0_14, .int .i8 a0_15, .int .i8 a0_16, .int .i8 a0_17, .int .i8 a0_18, .int .i8 a0_19, .int .i8 a0_20, .int .i8 a0_21, .int .i8 a0_22, .int .i8 a0_23, .int .i8 a0_24, .int .i8 a0_25, .int .i8 a0_26, .int .i8 a0_27, .slice A0_28 l0_28.length c0_28], .string a1, .int .i64 a2] w fun e w' => e = .returned (.bool r) ∧ Below w.heap.size w w' := by
  have HG := Aside0.mk hG
  clear hG
  have hu26 := Tryd.underlying26
  have hu32 := Tryd.underlying32
  have HR0_28 := Aside0.mk hr0_28
  have HC0_28 := Aside0.mk hc0_28
  clear hr0_28 hc0_28
  have HB := Aside0.mk (Below.refl w.heap.size w)
  have H : (if (a1.size : Int) > 1048576 then (some true) else ((laws_szFace.f a0_0 a0_1 a0_2 a0_3 a0_4 a0_5 a0_6 a0_7 a0_8 a0_9 a0_10 a0_11 a0_12 a0_13 a0_14 a0_15 a0_16 a0_17 a0_18 a0_19 a0_20 a0_21 a0_22 a0_23 a0_24 a0_25 a0_26 a0_27 l0_28 1048576).bind fun t438 => (if t438 < 0 then (some true) else ((laws_toFace.f a0_0 a0_1 a0_2 a0_3 a0_4 a0_5 a0_6 a0_7 a0_8 a0_9 a0_10 a0_11 a0_12 a0_13 a0_14 a0_15 a0_16 a0_17 a0_18 a0_19 a0_20 a0_21 a0_22 a0_23 a0_24 a0_25 a0_26 a0_27 l0_28).bind fun bt439 => ((spec_CentreLine.f k bt439.1 bt439.2.1 bt439.2.2.1 bt439.2.2.2.1 bt439.2.2.2.2.1 bt439.2.2.2.2.2.1 bt439.2.2.2.2.2.2.1 bt439.2.2.2.2.2.2.2.1 bt439.2.2.2.2.2.2.2.2.1 bt439.2.2.2.2.2.2.2.2.2.1 bt439.2.2.2.2.2.2.2.2.2.2.1 bt439.2.2.2.2.2.2.2.2.2.2.2.1 bt439.2.2.2.2.2.2.2.2.2.2.2.2.1 bt439.2.2.2.2.2.2.2.2.2.2.2.2.2.1 bt439.2.2.2.2.2.2.2.2.2.2.2.2.2.2.1 bt439.2.2.2.2.2.2.2.2.2.2.2.2.2.2.2.1 bt439.2.2.2.2.2.2.2.2.2.2.2.2.2.2.2.2.1 bt439.2.2.2.2.2.2.2.2.2.2.2.2.2.2.2.2.2.1 bt439.2.2.2.2.2.2.2.2.2.2.2.2.2.2.2.2.2.2.1 bt439.2.2.2.2.2.2.2.2.2.2.2.2.2.2.2.2.2.2.2.1 bt439.2.2.2.2.2.2.2.2.2.2.2.2.2.2.2.2.2.2.2.2.1 bt439.2.2.2.2.2.2.2.2.2.2.2.2.2.2.2.2.2.2.2.2.2.1 bt439.2.2.2.2.2.2.2.2.2.2.2.2.2.2.2.2.2.2.2.2.2.2.1 bt439.2.2.2.2.2.2.2.2.2.2.2.2.2.2.2.2.2.2.2.2.2.2.2.1 bt439.2.2.2.2.2.2.2.2.2.2.2.2.2.2.2.2.2.2.2.2.2.2.2.2.1 bt439.2.2.2.2.2.2.2.2.2.2.2.2.2.2.2.2.2.2.2.2.2.2.2.2.2.1 bt439.2.2.2.2.2.2.2.2.2.2.2.2.2.2.2.2.2.2.2.2.2.2.2.2.2.2.1 bt439.2.2.2.2.2.2.2.2.2.2.2.2.2.2.2.2.2.2.2.2.2.2.2.2.2.2.2.1 bt439.2.2.2.2.2.2.2.2.2.2.2.2.2.2.2.2.2.2.2.2.2.2.2.2.2.2.2.2 a1 a2).bind fun bt470 => ((laws_toFace.f a0_0 a0_1 a0_2 a0_3 a0_4 a0_5 a0_6 a0_7 a0_8 a0_9 a0_10 a0_11 a0_12 a0_13 a0_14 a0_15 a0_16 a0_17 a0_18 a0_19 a0_20 a0_21 a0_22 a0_23 a0_24 a0_25 a0_26 a0_27 l0_28).bind fun bt472 => ((impl_CentreLine.f k bt472.1 bt472.2.1 bt472.2.2.1 bt472.2.2.2.1 bt472.2.2.2.2.1 bt472.2.2.2.2.2.1 bt472.2.2.2.2.2.2.1 bt472.2.2.2.2.2.2.2.1 bt472.2.2.2.2.2.2.2.2.1 bt472.2.2.2.2.2.2.2.2.2.1 bt472.2.2.2.2.2.2.2.2.2.2.1 bt472.2.2.2.2.2.2.2.2.2.2.2.1 bt472.2.2.2.2.2.2.2.2.2.2.2.2.1 bt472.2.2.2.2.2.2.2.2.2.2.2.2.2.1 bt472.2.2.2.2.2.2.2.2.2.2.2.2.2.2.1 bt472.2.2.2.2.2.2.2.2.2.2.2.2.2.2.2.1 bt472.2.2.2.2.2.2.2.2.2.2.2.2.2.2.2.2.1 bt472.2.2.2.2.2.2.2.2.2.2.2.2.2.2.2.2.2.1 bt472.2.2.2.2.2.2.2.2.2.2.2.2.2.2.2.2.2.2.1 bt472.2.2.2.2.2.2.2.2.2.2.2.2.2.2.2.2.2.2.2.1 bt472.2.2.2.2.2.2.2.2.2.2.2.2.2.2.2.2.2.2.2.2.1 bt472.2.2.2.2.2.2.2.2.2.2.2.2.2.2.2.2.2.2.2.2.2.1 bt472.2.2.2.2.2.2.2.2.2.2.2.2.2.2.2.2.2.2.2.2.2.2.1 bt472.2.2.2.2.2.2.2.2.2.2.2.2.2.2.2.2.2.2.2.2.2.2.2.1 bt472.2.2.2.2.2.2.2.2.2.2.2.2.2.2.2.2.2.2.2.2.2.2.2.2.1 bt472.2.2.2.2.2.2.2.2.2.2.2.2.2.2.2.2.2.2.2.2.2.2.2.2.2.1 bt472.2.2.2.2.2.2.2.2.2.2.2.2.2.2.2.2.2.2.2.2.2.2.2.2.2.2.1 bt472.2.2.2.2.2.2.2.2.2.2.2.2.2.2.2.2.2.2.2.2.2.2.2.2.2.2.2.1 bt472.2.2.2.2.2.2.2.2.2.2.2.2.2.2.2.2.2.2.2.2.2.2.2.2.2.2.2.2 a1 a2).bind fun bt504 => (if bt504.1 = bt470.1 then (laws_FnExactCentreLine.j0 k (bt504.2 != bt470.2) a0_0 a0_1 a0_2 a0_3 a0_4 a0_5 a0_6 a0_7 a0_8 a0_9 a0_10 a0_11 a0_12 a0_13 a0_14 a0_15 a0_16 a0_17 a0_18 a0_19 a0_20 a0_21 a0_22 a0_23 a0_24 a0_25 a0_26 a0_27 l0_28 bt472.1 bt472.2.1 bt472.2.2.1 bt472.2.2.2.1 bt472.2.2.2.2.1 bt472.2.2.2.2.2.1 bt472.2.2.2.2.2.2.1 bt472.2.2.2.2.2.2.2.1 bt472.2.2.2.2.2.2.2.2.1 bt472.2.2.2.2.2.2.2.2.2.1 bt472.2.2.2.2.2.2.2.2.2.2.1 bt472.2.2.2.2.2.2.2.2.2.2.2.1 bt472.2.2.2.2.2.2.2.2.2.2.2.2.1 bt472.2.2.2.2.2.2.2.2.2.2.2.2.2.1 bt472.2.2.2.2.2.2.2.2.2.2.2.2.2.2.1 bt472.2.2.2.2.2.2.2.2.2.2.2.2.2.2.2.1 bt472.2.2.2.2.2.2.2.2.2.2.2.2.2.2.2.2.1 bt472.2.2.2.2.2.2.2.2.2.2.2.2.2.2.2.2.2.1 bt472.2.2.2.2.2.2.2.2.2.2.2.2.2.2.2.2.2.2.1 bt472.2.2.2.2.2.2.2.2.2.2.2.2.2.2.2.2.2.2.2.1 bt472.2.2.2.2.2.2.2.2.2.2.2.2.2.2.2.2.2.2.2.2.1 bt472.2.2.2.2.2.2.2.2.2.2.2.2.2.2.2.2.2.2.2.2.2.1 bt472.2.2.2.2.2.2.2.2.2.2.2.2.2.2.2.2.2.2.2.2.2.2.1 bt472.2.2.2.2.2.2.2.2.2.2.2.2.2.2.2.2.2.2.2.2.2.2.2.1 bt472.2.2.2.2.2.2.2.2.2.2.2.2.2.2.2.2.2.2.2.2.2.2.2.2.1 bt472.2.2.2.2.2.2.2.2.2.2.2.2.2.2.2.2.2.2.2.2.2.2.2.2.2.1 bt472.2.2.2.2.2.2.2.2.2.2.2.2.2.2.2.2.2.2.2.2.2.2.2.2.2.2.1 bt472.2.2.2.2.2.2.2.2.2.2.2.2.2.2.2.2.2.2.2.2.2.2.2.2.2.2.2.1 bt472.2.2.2.2.2.2.2.2.2.2.2.2.2.2.2.2.2.2.2.2.2.2.2.2.2.2.2.2) else (laws_FnExactCentreLine.j0 k true a0_0 a0_1 a0_2 a0_3 a0_4 a0_5 a0_6 a0_7 a0_8 a0_9 a0_10 a0_11 a0_12 a0_13 a0_14 a0_15 a0_16 a0_17 a0_18 a0_19 a0_20 a0_21 a0_22 a0_23 a0_24 a0_25 a0_26 a0_27 l0_28 bt472.1 bt472.2.1 bt472.2.2.1 bt472.2.2.2.1 bt472.2.2.2.2.1 bt472.2.2.2.2.2.1 bt472.2.2.2.2.2.2.1 bt472.2.2.2.2.2.2.2.1 bt472.2.2.2.2.2.2.2.2.1 bt472.2.2.2.2.2.2.2.2.2.1 bt472.2.2.2.2.2.2.2.2.2.2.1 bt472.2.2.2.2.2.2.2.2.2.2.2.1 bt472.2.2.2.2.2.2.2.2.2.2.2.2.1 bt472.2.2.2.2.2.2.2.2.2.2.2.2.2.1 bt472.2.2.2.2.2.2.2.2.2.2.2.2.2.2.1 bt472.2.2.2.2.2.2.2.2.2.2.2.2.2.2.2.1 bt472.2.2.2.2.2.2.2.2.2.2.2.2.2.2.2.2.1 bt472.2.2.2.2.2.2.2.2.2.2.2.2.2.2.2.2.2.1 bt472.2.2.2.2.2.2.2.2.2.2.2.2.2.2.2.2.2.2.1 bt472.2.2.2.2.2.2.2.2.2.2.2.2.2.2.2.2.2.2.2.1 bt472.2.2.2.2.2.2.2.2.2.2.2.2.2.2.2.2.2.2.2.2.1 bt472.2.2.2.2.2.2.2.2.2.2.2.2.2.2.2.2.2.2.2.2.2.1 bt472.2.2.2.2.2.2.2.2.2.2.2.2.2.2.2.2.2.2.2.2.2.2.1 bt472.2.2.2.2.2.2.2.2.2.2.2.2.2.2.2.2.2.2.2.2.2.2.2.1 bt472.2.2.2.2.2.2.2.2.2.2.2.2.2.2.2.2.2.2.2.2.2.2.2.2.1 bt472.2.2.2.2.2.2.2.2.2.2.2.2.2.2.2.2.2.2.2.2.2.2.2.2.2.1 bt472.2.2.2.2.2.2.2.2.2.2.2.2.2.2.2.2.2.2.2.2.2.2.2.2.2.2.1 bt472.2.2.2.2.2.2.2.2.2.2.2.2.2.2.2.2.2.2.2.2.2.2.2.2.2.2.2.1 bt472.2.2.2.2.2.2.2.2.2.2.2.2.2.2.2.2.2.2.2.2.2.2.2.2.2.2.2.2))))))))) = some r := h
  clear h
  by_cases c4 : (a1.size : Int) > 1048576
  · rw [if_pos c4] at H
    have c4b0 : decide (1048576 < (a1.size : Int)) = true := decide_eq_true c4
    have c4b1 : decide (1048576 < a1.size) = true := decide_eq_true (by omega)
    clear c4
    obtain rfl := Option.some.inj H
    go_enter Tryd.func5, Tryd.ntmps5
    go_wp2_with (first | ((with_reducible refine gate_dst (N := 3) rfl ?_); refine box_event ?hg (N := 3) ?hd (cs := #[.int .i8 a0_0, .int .i8 a0_1, .int .i8 a0_2, .int .i8 a0_3, .int .i8 a0_4, .int .i8 a0_5, .int .i8 a0_6, .int .i8 a0_7, .int .i8 a0_8, .int .i8 a0_9, .int .i8 a0_10, .int .i8 a0_11, .int .i8 a0_12, .int .i8 a0_13, .int .i8 a0_14, .int .i8 a0_15, .int .i8 a0_16, .int .i8 a0_17, .int .i8 a0_18, .int .i8 a0_19, .int .i8 a0_20, .int .i8 a0_21, .int .i8 a0_22, .int .i8 a0_23, .int .i8 a0_24, .int .i8 a0_25, .int .i8 a0_26, .int .i8 a0_27, .slice A0_28 l0_28.length c0_28]) (t := 26) ?hr ?_; (case hd => rfl); (case hg => rfl); (case hr => first | (go_simp; done) | (go_simp; rfl)); intro gb437 hg w5 hbox hb; have n0_ := Aside0.mk (below_step (by repeat (first | (with_reducible first | exact HB.out | apply below_alloc | apply pw_below_drewN | apply below_drew1) | exact HB.out)) hb); have n1_ := Aside0.mk (hbox); have n2_ := Aside0.mk ((by rw [hg]; exact (below_size (by repeat (first | (with_reducible first | exact HB.out | apply below_alloc | apply pw_below_drewN | apply below_drew1) | exact HB.out))) : w.heap.size ≤ gb437)); have n3_ := Aside0.mk ((by rw [hg]; exact (below_size (by repeat (first | (with_reducible first | exact HB.out | apply below_alloc | apply pw_below_drewN | apply below_drew1) | exact HB.out))) : w.heap.size ≤ gb437)); clear HB; have HB := n0_; have BK437 := n1_; have GW437 := n2_; have GE437 := n3_; clear n0_ n1_ n2_ n3_; clear hb hbox hg))
    go_ret
    exact ⟨by first | rfl | (simp [errW_none, errW_some] <;> rfl) | (simp [*, errW_none, errW_some] <;> rfl), by repeat (first | (with_reducible first | exact HB.out | apply below_alloc | apply pw_below_drewN | apply below_drew1 | refine below_set ?_ GE437.out) | exact HB.out)⟩
  · rw [if_neg c4] at H
    have c4b0 : decide (1048576 < (a1.size : Int)) = false := decide_eq_false c4
    have c4b1 : decide (1048576 < a1.size) = false := decide_eq_false (by omega)
    clear c4
    replace H := Option.bind_eq_some_iff.mp H
    obtain ⟨t438, A60, H⟩ := H
    replace H : (if t438 < 0 then (some true) else ((laws_toFace.f a0_0 a0_1 a0_2 a0_3 a0_4 a0_5 a0_6 a0_7 a0_8 a0_9 a0_10 a0_11 a0_12 a0_13 a0_14 a0_15 a0_16 a0_17 a0_18 a0_19 a0_20 a0_21 a0_22 a0_23 a0_24 a0_25 a0_26 a0_27 l0_28).bind fun bt439 => ((spec_CentreLine.f k bt439.1 bt439.2.1 bt439.2.2.1 bt439.2.2.2.1 bt439.2.2.2.2.1 bt439.2.2.2.2.2.1 bt439.2.2.2.2.2.2.1 bt439.2.2.2.2.2.2.2.1 bt439.2.2.2.2.2.2.2.2.1 bt439.2.2.2.2.2.2.2.2.2.1 bt439.2.2.2.2.2.2.2.2.2.2.1 bt439.2.2.2.2.2.2.2.2.2.2.2.1 bt439.2.2.2.2.2.2.2.2.2.2.2.2.1 bt439.2.2.2.2.2.2.2.2.2.2.2.2.2.1 bt439.2.2.2.2.2.2.2.2.2.2.2.2.2.2.1 bt439.2.2.2.2.2.2.2.2.2.2.2.2.2.2.2.1 bt439.2.2.2.2.2.2.2.2.2.2.2.2.2.2.2.2.1 bt439.2.2.2.2.2.2.2.2.2.2.2.2.2.2.2.2.2.1 bt439.2.2.2.2.2.2.2.2.2.2.2.2.2.2.2.2.2.2.1 bt439.2.2.2.2.2.2.2.2.2.2.2.2.2.2.2.2.2.2.2.1 bt439.2.2.2.2.2.2.2.2.2.2.2.2.2.2.2.2.2.2.2.2.1 bt439.2.2.2.2.2.2.2.2.2.2.2.2.2.2.2.2.2.2.2.2.2.1 bt439.2.2.2.2.2.2.2.2.2.2.2.2.2.2.2.2.2.2.2.2.2.2.1 bt439.2.2.2.2.2.2.2.2.2.2.2.2.2.2.2.2.2.2.2.2.2.2.2.1 bt439.2.2.2.2.2.2.2.2.2.2.2.2.2.2.2.2.2.2.2.2.2.2.2.2.1 bt439.2.2.2.2.2.2.2.2.2.2.2.2.2.2.2.2.2.2.2.2.2.2.2.2.2.1 bt439.2.2.2.2.2.2.2.2.2.2.2.2.2.2.2.2.2.2.2.2.2.2.2.2.2.2.1 bt439.2.2.2.2.2.2.2.2.2.2.2.2.2.2.2.2.2.2.2.2.2.2.2.2.2.2.2.1 bt439.2.2.2.2.2.2.2.2.2.2.2.2.2.2.2.2.2.2.2.2.2.2.2.2.2.2.2.2 a1 a2).bind fun bt470 => ((laws_toFace.f a0_0 a0_1 a0_2 a0_3 a0_4 a0_5 a0_6 a0_7 a0_8 a0_9 a0_10 a0_11 a0_12 a0_13 a0_14 a0_15 a0_16 a0_17 a0_18 a0_19 a0_20 a0_21 a0_22 a0_23 a0_24 a0_25 a0_26 a0_27 l0_28).bind fun bt472 => ((impl_CentreLine.f k bt472.1 bt472.2.1 bt472.2.2.1 bt472.2.2.2.1 bt472.2.2.2.2.1 bt472.2.2.2.2.2.1 bt472.2.2.2.2.2.2.1 bt472.2.2.2.2.2.2.2.1 bt472.2.2.2.2.2.2.2.2.1 bt472.2.2.2.2.2.2.2.2.2.1 bt472.2.2.2.2.2.2.2.2.2.2.1 bt472.2.2.2.2.2.2.2.2.2.2.2.1 bt472.2.2.2.2.2.2.2.2.2.2.2.2.1 bt472.2.2.2.2.2.2.2.2.2.2.2.2.2.1 bt472.2.2.2.2.2.2.2.2.2.2.2.2.2.2.1 bt472.2.2.2.2.2.2.2.2.2.2.2.2.2.2.2.1 bt472.2.2.2.2.2.2.2.2.2.2.2.2.2.2.2.2.1 bt472.2.2.2.2.2.2.2.2.2.2.2.2.2.2.2.2.2.1 bt472.2.2.2.2.2.2.2.2.2.2.2.2.2.2.2.2.2.2.1 bt472.2.2.2.2.2.2.2.2.2.2.2.2.2.2.2.2.2.2.2.1 bt472.2.2.2.2.2.2.2.2.2.2.2.2.2.2.2.2.2.2.2.2.1 bt472.2.2.2.2.2.2.2.2.2.2.2.2.2.2.2.2.2.2.2.2.2.1 bt472.2.2.2.2.2.2.2.2.2.2.2.2.2.2.2.2.2.2.2.2.2.2.1 bt472.2.2.2.2.2.2.2.2.2.2.2.2.2.2.2.2.2.2.2.2.2.2.2.1 bt472.2.2.2.2.2.2.2.2.2.2.2.2.2.2.2.2.2.2.2.2.2.2.2.2.1 bt472.2.2.2.2.2.2.2.2.2.2.2.2.2.2.2.2.2.2.2.2.2.2.2.2.2.1 bt472.2.2.2.2.2.2.2.2.2.2.2.2.2.2.2.2.2.2.2.2.2.2.2.2.2.2.1 bt472.2.2.2.2.2.2.2.2.2.2.2.2.2.2.2.2.2.2.2.2.2.2.2.2.2.2.2.1 bt472.2.2.2.2.2.2.2.2.2.2.2.2.2.2.2.2.2.2.2.2.2.2.2.2.2.2.2.2 a1 a2).bind fun bt504 => (if bt504.1 = bt470.1 then (laws_FnExactCentreLine.j0 k (bt504.2 != bt470.2) a0_0 a0_1 a0_2 a0_3 a0_4 a0_5 a0_6 a0_7 a0_8 a0_9 a0_10 a0_11 a0_12 a0_13 a0_14 a0_15 a0_16 a0_17 a0_18 a0_19 a0_20 a0_21 a0_22 a0_23 a0_24 a0_25 a0_26 a0_27 l0_28 bt472.1 bt472.2.1 bt472.2.2.1 bt472.2.2.2.1 bt472.2.2.2.2.1 bt472.2.2.2.2.2.1 bt472.2.2.2.2.2.2.1 bt472.2.2.2.2.2.2.2.1 bt472.2.2.2.2.2.2.2.2.1 bt472.2.2.2.2.2.2.2.2.2.1 bt472.2.2.2.2.2.2.2.2.2.2.1 bt472.2.2.2.2.2.2.2.2.2.2.2.1 bt472.2.2.2.2.2.2.2.2.2.2.2.2.1 bt472.2.2.2.2.2.2.2.2.2.2.2.2.2.1 bt472.2.2.2.2.2.2.2.2.2.2.2.2.2.2.1 bt472.2.2.2.2.2.2.2.2.2.2.2.2.2.2.2.1 bt472.2.2.2.2.2.2.2.2.2.2.2.2.2.2.2.2.1 bt472.2.2.2.2.2.2.2.2.2.2.2.2.2.2.2.2.2.1 bt472.2.2.2.2.2.2.2.2.2.2.2.2.2.2.2.2.2.2.1 bt472.2.2.2.2.2.2.2.2.2.2.2.2.2.2.2.2.2.2.2.1 bt472.2.2.2.2.2.2.2.2.2.2.2.2.2.2.2.2.2.2.2.2.1 bt472.2.2.2.2.2.2.2.2.2.2.2.2.2.2.2.2.2.2.2.2.2.1 bt472.2.2.2.2.2.2.2.2.2.2.2.2.2.2.2.2.2.2.2.2.2.2.1 bt472.2.2.2.2.2.2.2.2.2.2.2.2.2.2.2.2.2.2.2.2.2.2.2.1 bt472.2.2.2.2.2.2.2.2.2.2.2.2.2.2.2.2.2.2.2.2.2.2.2.2.1 bt472.2.2.2.2.2.2.2.2.2.2.2.2.2.2.2.2.2.2.2.2.2.2.2.2.2.1 bt472.2.2.2.2.2.2.2.2.2.2.2.2.2.2.2.2.2.2.2.2.2.2.2.2.2.2.1 bt472.2.2.2.2.2.2.2.2.2.2.2.2.2.2.2.2.2.2.2.2.2.2.2.2.2.2.2.1 bt472.2.2.2.2.2.2.2.2.2.2.2.2.2.2.2.2.2.2.2.2.2.2.2.2.2.2.2.2) else (laws_FnExactCentreLine.j0 k true a0_0 a0_1 a0_2 a0_3 a0_4 a0_5 a0_6 a0_7 a0_8 a0_9 a0_10 a0_11 a0_12 a0_13 a0_14 a0_15 a0_16 a0_17 a0_18 a0_19 a0_20 a0_21 a0_22 a0_23 a0_24 a0_25 a0_26 a0_27 l0_28 bt472.1 bt472.2.1 bt472.2.2.1 bt472.2.2.2.1 bt472.2.2.2.2.1 bt472.2.2.2.2.2.1 bt472.2.2.2.2.2.2.1 bt472.2.2.2.2.2.2.2.1 bt472.2.2.2.2.2.2.2.2.1 bt472.2.2.2.2.2.2.2.2.2.1 bt472.2.2.2.2.2.2.2.2.2.2.1 bt472.2.2.2.2.2.2.2.2.2.2.2.1 bt472.2.2.2.2.2.2.2.2.2.2.2.2.1 bt472.2.2.2.2.2.2.2.2.2.2.2.2.2.1 bt472.2.2.2.2.2.2.2.2.2.2.2.2.2.2.1 bt472.2.2.2.2.2.2.2.2.2.2.2.2.2.2.2.1 bt472.2.2.2.2.2.2.2.2.2.2.2.2.2.2.2.2.1 bt472.2.2.2.2.2.2.2.2.2.2.2.2.2.2.2.2.2.1 bt472.2.2.2.2.2.2.2.2.2.2.2.2.2.2.2.2.2.2.1 bt472.2.2.2.2.2.2.2.2.2.2.2.2.2.2.2.2.2.2.2.1 bt472.2.2.2.2.2.2.2.2.2.2.2.2.2.2.2.2.2.2.2.2.1 bt472.2.2.2.2.2.2.2.2.2.2.2.2.2.2.2.2.2.2.2.2.2.1 bt472.2.2.2.2.2.2.2.2.2.2.2.2.2.2.2.2.2.2.2.2.2.2.1 bt472.2.2.2.2.2.2.2.2.2.2.2.2.2.2.2.2.2.2.2.2.2.2.2.1 bt472.2.2.2.2.2.2.2.2.2.2.2.2.2.2.2.2.2.2.2.2.2.2.2.2.1 bt472.2.2.2.2.2.2.2.2.2.2.2.2.2.2.2.2.2.2.2.2.2.2.2.2.2.1 bt472.2.2.2.2.2.2.2.2.2.2.2.2.2.2.2.2.2.2.2.2.2.2.2.2.2.2.1 bt472.2.2.2.2.2.2.2.2.2.2.2.2.2.2.2.2.2.2.2.2.2.2.2.2.2.2.2.1 bt472.2.2.2.2.2.2.2.2.2.2.2.2.2.2.2.2.2.2.2.2.2.2.2.2.2.2.2.2))))))) = some r := H
    have A6 := Aside0.mk A60
    clear A60
    by_cases c7 : t438 < 0
    · rw [if_pos c7] at H
      have c7b0 : decide (t438 < 0) = true := decide_eq_true c7
      clear c7
      obtain rfl := Option.some.inj H
      go_enter Tryd.func5, Tryd.ntmps5
      go_wp2_with (first | ((with_reducible refine gate_dst (N := 3) rfl ?_); refine box_event ?hg (N := 3) ?hd (cs := #[.int .i8 a0_0, .int .i8 a0_1, .int .i8 a0_2, .int .i8 a0_3, .int .i8 a0_4, .int .i8 a0_5, .int .i8 a0_6, .int .i8 a0_7, .int .i8 a0_8, .int .i8 a0_9, .int .i8 a0_10, .int .i8 a0_11, .int .i8 a0_12, .int .i8 a0_13, .int .i8 a0_14, .int .i8 a0_15, .int .i8 a0_16, .int .i8 a0_17, .int .i8 a0_18, .int .i8 a0_19, .int .i8 a0_20, .int .i8 a0_21, .int .i8 a0_22, .int .i8 a0_23, .int .i8 a0_24, .int .i8 a0_25, .int .i8 a0_26, .int .i8 a0_27, .slice A0_28 l0_28.length c0_28]) (t := 26) ?hr ?_; (case hd => rfl); (case hg => rfl); (case hr => first | (go_simp; done) | (go_simp; rfl)); intro gb437 hg w8 hbox hb; have n0_ := Aside0.mk (below_step (by repeat (first | (with_reducible first | exact HB.out | apply below_alloc | apply pw_below_drewN | apply below_drew1) | exact HB.out)) hb); have n1_ := Aside0.mk (hbox); have n2_ := Aside0.mk ((by rw [hg]; exact (below_size (by repeat (first | (with_reducible first | exact HB.out | apply below_alloc | apply pw_below_drewN | apply below_drew1) | exact HB.out))) : w.heap.size ≤ gb437)); have n3_ := Aside0.mk ((by rw [hg]; exact (below_size (by repeat (first | (with_reducible first | exact HB.out | apply below_alloc | apply pw_below_drewN | apply below_drew1) | exact HB.out))) : w.heap.size ≤ gb437)); clear HB; have HB := n0_; have BK437 := n1_; have GW437 := n2_; have GE437 := n3_; clear n0_ n1_ n2_ n3_; clear hb hbox hg) | ((with_reducible refine gate_dst (N := 16) rfl ?_); refine wpList_load_mid rfl 26 (.tmp 3) rfl gb437 0 rfl [.int .i8 a0_0, .int .i8 a0_1, .int .i8 a0_2, .int .i8 a0_3, .int .i8 a0_4, .int .i8 a0_5, .int .i8 a0_6, .int .i8 a0_7, .int .i8 a0_8, .int .i8 a0_9, .int .i8 a0_10, .int .i8 a0_11, .int .i8 a0_12, .int .i8 a0_13, .int .i8 a0_14, .int .i8 a0_15, .int .i8 a0_16, .int .i8 a0_17, .int .i8 a0_18, .int .i8 a0_19, .int .i8 a0_20, .int .i8 a0_21, .int .i8 a0_22, .int .i8 a0_23, .int .i8 a0_24, .int .i8 a0_25, .int .i8 a0_26, .int .i8 a0_27, .slice A0_28 l0_28.length c0_28] _ (range_partx_ [] [.int .i8 a0_0, .int .i8 a0_1, .int .i8 a0_2, .int .i8 a0_3, .int .i8 a0_4, .int .i8 a0_5, .int .i8 a0_6, .int .i8 a0_7, .int .i8 a0_8, .int .i8 a0_9, .int .i8 a0_10, .int .i8 a0_11, .int .i8 a0_12, .int .i8 a0_13, .int .i8 a0_14, .int .i8 a0_15, .int .i8 a0_16, .int .i8 a0_17, .int .i8 a0_18, .int .i8 a0_19, .int .i8 a0_20, .int .i8 a0_21, .int .i8 a0_22, .int .i8 a0_23, .int .i8 a0_24, .int .i8 a0_25, .int .i8 a0_26, .int .i8 a0_27, .slice A0_28 l0_28.length c0_28] [] 0 rfl (by (with_reducible repeat (first | refine blk_drewN ?_ _ | refine blk_drew ?_ | refine blk_alloc ?_ _)); exact BK437.out)) Tryd.underlying26 rfl (by exact (show (Tryd.prog.info? 26).map (·.size) = some 29 by kernel_rfl)) ?_) | ((with_reducible refine gate_callee (f := 18) rfl ?_); refine goesL_ (some 18) rfl rfl Tryd.func18 (by kernel_rfl) rfl #[.agg #[.int .i8 a0_0, .int .i8 a0_1, .int .i8 a0_2, .int .i8 a0_3, .int .i8 a0_4, .int .i8 a0_5, .int .i8 a0_6, .int .i8 a0_7, .int .i8 a0_8, .int .i8 a0_9, .int .i8 a0_10, .int .i8 a0_11, .int .i8 a0_12, .int .i8 a0_13, .int .i8 a0_14, .int .i8 a0_15, .int .i8 a0_16, .int .i8 a0_17, .int .i8 a0_18, .int .i8 a0_19, .int .i8 a0_20, .int .i8 a0_21, .int .i8 a0_22, .int .i8 a0_23, .int .i8 a0_24, .int .i8 a0_25, .int .i8 a0_26, .int .i8 a0_27, .slice A0_28 l0_28.length c0_28], .int .i64 1048576] rfl (by (try simp only [List.map_toArray, List.map_cons, List.map_nil]); first | done | rfl | (simp only [List.length_drop, List.length_take]; rfl)) ?_; (with_reducible refine (laws_szFace.calls a0_0 a0_1 a0_2 a0_3 a0_4 a0_5 a0_6 a0_7 a0_8 a0_9 a0_10 a0_11 a0_12 a0_13 a0_14 a0_15 a0_16 a0_17 a0_18 a0_19 a0_20 a0_21 a0_22 a0_23 a0_24 a0_25 a0_26 a0_27 _ _ l0_28 1048576 t438 _ ?side1 ?side2 A6.out).mono ?_); (case side1 => repeat (first | exact (Kd.C_below HR0_28.out HB.out) | (with_reducible refine Kd.C_alloc ?_ _) | (with_reducible refine Kd.C_drewN ?_ _) | (with_reducible refine Kd.C_drew ?_))); (case side2 => exact HC0_28.out); rintro e w9 ⟨rfl, hb⟩; refine ⟨_, rfl, ?_⟩; have n0_ := Aside0.mk (blk_below (g := gb437) (o := .cells #[.int .i8 a0_0, .int .i8 a0_1, .int .i8 a0_2, .int .i8 a0_3, .int .i8 a0_4, .int .i8 a0_5, .int .i8 a0_6, .int .i8 a0_7, .int .i8 a0_8, .int .i8 a0_9, .int .i8 a0_10, .int .i8 a0_11, .int .i8 a0_12, .int .i8 a0_13, .int .i8 a0_14, .int .i8 a0_15, .int .i8 a0_16, .int .i8 a0_17, .int .i8 a0_18, .int .i8 a0_19, .int .i8 a0_20, .int .i8 a0_21, .int .i8 a0_22, .int .i8 a0_23, .int .i8 a0_24, .int .i8 a0_25, .int .i8 a0_26, .int .i8 a0_27, .slice A0_28 l0_28.length c0_28] 26 (0, 0)) (by (with_reducible repeat (first | refine blk_drewN ?_ _ | refine blk_drew ?_ | refine blk_alloc ?_ _)); exact BK437.out) hb); have n1_ := Aside0.mk (below_step (by repeat (first | (with_reducible first | exact HB.out | apply below_alloc | apply pw_below_drewN | apply below_drew1 | refine below_set ?_ GE437.out) | exact HB.out)) hb); clear BK437; clear HB; have BK437 := n0_; have HB := n1_; clear n0_ n1_; (try clear hb); (try clear hb2); (try clear hk); (try clear hi)))
      go_ret
      exact ⟨by first | rfl | (simp [errW_none, errW_some] <;> rfl) | (simp [*, errW_none, errW_some] <;> rfl), by repeat (first | (with_reducible first | exact HB.out | apply below_alloc | apply pw_below_drewN | apply below_drew1 | refine below_set ?_ GE437.out) | exact HB.out)⟩
    · rw [if_neg c7] at H
      have c7b0 : decide (t438 < 0) = false := decide_eq_false c7
      clear c7
      replace H := Option.bind_eq_some_iff.mp H
      obtain ⟨⟨t439, t440, t441, t442, t443, t444, t445, t446, t447, t448, t449, t450, t451, t452, t453, t454, t455, t456, t457, t458, t459, t460, t461, t462, t463, t464, t465, t466, t467⟩, A100, H⟩ := H
      replace H : ((spec_CentreLine.f k t439 t440 t441 t442 t443 t444 t445 t446 t447 t448 t449 t450 t451 t452 t453 t454 t455 t456 t457 t458 t459 t460 t461 t462 t463 t464 t465 t466 t467 a1 a2).bind fun bt470 => ((laws_toFace.f a0_0 a0_1 a0_2 a0_3 a0_4 a0_5 a0_6 a0_7 a0_8 a0_9 a0_10 a0_11 a0_12 a0_13 a0_14 a0_15 a0_16 a0_17 a0_18 a0_19 a0_20 a0_21 a0_22 a0_23 a0_24 a0_25 a0_26 a0_27 l0_28).bind fun bt472 => ((impl_CentreLine.f k bt472.1 bt472.2.1 bt472.2.2.1 bt472.2.2.2.1 bt472.2.2.2.2.1 bt472.2.2.2.2.2.1 bt472.2.2.2.2.2.2.1 bt472.2.2.2.2.2.2.2.1 bt472.2.2.2.2.2.2.2.2.1 bt472.2.2.2.2.2.2.2.2.2.1 bt472.2.2.2.2.2.2.2.2.2.2.1 bt472.2.2.2.2.2.2.2.2.2.2.2.1 bt472.2.2.2.2.2.2.2.2.2.2.2.2.1 bt472.2.2.2.2.2.2.2.2.2.2.2.2.2.1 bt472.2.2.2.2.2.2.2.2.2.2.2.2.2.2.1 bt472.2.2.2.2.2.2.2.2.2.2.2.2.2.2.2.1 bt472.2.2.2.2.2.2.2.2.2.2.2.2.2.2.2.2.1 bt472.2.2.2.2.2.2.2.2.2.2.2.2.2.2.2.2.2.1 bt472.2.2.2.2.2.2.2.2.2.2.2.2.2.2.2.2.2.2.1 bt472.2.2.2.2.2.2.2.2.2.2.2.2.2.2.2.2.2.2.2.1 bt472.2.2.2.2.2.2.2.2.2.2.2.2.2.2.2.2.2.2.2.2.1 bt472.2.2.2.2.2.2.2.2.2.2.2.2.2.2.2.2.2.2.2.2.2.1 bt472.2.2.2.2.2.2.2.2.2.2.2.2.2.2.2.2.2.2.2.2.2.2.1 bt472.2.2.2.2.2.2.2.2.2.2.2.2.2.2.2.2.2.2.2.2.2.2.2.1 bt472.2.2.2.2.2.2.2.2.2.2.2.2.2.2.2.2.2.2.2.2.2.2.2.2.1 bt472.2.2.2.2.2.2.2.2.2.2.2.2.2.2.2.2.2.2.2.2.2.2.2.2.2.1 bt472.2.2.2.2.2.2.2.2.2.2.2.2.2.2.2.2.2.2.2.2.2.2.2.2.2.2.1 bt472.2.2.2.2.2.2.2.2.2.2.2.2.2.2.2.2.2.2.2.2.2.2.2.2.2.2.2.1 bt472.2.2.2.2.2.2.2.2.2.2.2.2.2.2.2.2.2.2.2.2.2.2.2.2.2.2.2.2 a1 a2).bind fun bt504 => (if bt504.1 = bt470.1 then (laws_FnExactCentreLine.j0 k (bt504.2 != bt470.2) a0_0 a0_1 a0_2 a0_3 a0_4 a0_5 a0_6 a0_7 a0_8 a0_9 a0_10 a0_11 a0_12 a0_13 a0_14 a0_15 a0_16 a0_17 a0_18 a0_19 a0_20 a0_21 a0_22 a0_23 a0_24 a0_25 a0_26 a0_27 l0_28 bt472.1 bt472.2.1 bt472.2.2.1 bt472.2.2.2.1 bt472.2.2.2.2.1 bt472.2.2.2.2.2.1 bt472.2.2.2.2.2.2.1 bt472.2.2.2.2.2.2.2.1 bt472.2.2.2.2.2.2.2.2.1 bt472.2.2.2.2.2.2.2.2.2.1 bt472.2.2.2.2.2.2.2.2.2.2.1 bt472.2.2.2.2.2.2.2.2.2.2.2.1 bt472.2.2.2.2.2.2.2.2.2.2.2.2.1 bt472.2.2.2.2.2.2.2.2.2.2.2.2.2.1 bt472.2.2.2.2.2.2.2.2.2.2.2.2.2.2.1 bt472.2.2.2.2.2.2.2.2.2.2.2.2.2.2.2.1 bt472.2.2.2.2.2.2.2.2.2.2.2.2.2.2.2.2.1 bt472.2.2.2.2.2.2.2.2.2.2.2.2.2.2.2.2.2.1 bt472.2.2.2.2.2.2.2.2.2.2.2.2.2.2.2.2.2.2.1 bt472.2.2.2.2.2.2.2.2.2.2.2.2.2.2.2.2.2.2.2.1 bt472.2.2.2.2.2.2.2.2.2.2.2.2.2.2.2.2.2.2.2.2.1 bt472.2.2.2.2.2.2.2.2.2.2.2.2.2.2.2.2.2.2.2.2.2.1 bt472.2.2.2.2.2.2.2.2.2.2.2.2.2.2.2.2.2.2.2.2.2.2.1 bt472.2.2.2.2.2.2.2.2.2.2.2.2.2.2.2.2.2.2.2.2.2.2.2.1 bt472.2.2.2.2.2.2.2.2.2.2.2.2.2.2.2.2.2.2.2.2.2.2.2.2.1 bt472.2.2.2.2.2.2.2.2.2.2.2.2.2.2.2.2.2.2.2.2.2.2.2.2.2.1 bt472.2.2.2.2.2.2.2.2.2.2.2.2.2.2.2.2.2.2.2.2.2.2.2.2.2.2.1 bt472.2.2.2.2.2.2.2.2.2.2.2.2.2.2.2.2.2.2.2.2.2.2.2.2.2.2.2.1 bt472.2.2.2.2.2.2.2.2.2.2.2.2.2.2.2.2.2.2.2.2.2.2.2.2.2.2.2.2) else (laws_FnExactCentreLine.j0 k true a0_0 a0_1 a0_2 a0_3 a0_4 a0_5 a0_6 a0_7 a0_8 a0_9 a0_10 a0_11 a0_12 a0_13 a0_14 a0_15 a0_16 a0_17 a0_18 a0_19 a0_20 a0_21 a0_22 a0_23 a0_24 a0_25 a0_26 a0_27 l0_28 bt472.1 bt472.2.1 bt472.2.2.1 bt472.2.2.2.1 bt472.2.2.2.2.1 bt472.2.2.2.2.2.1 bt472.2.2.2.2.2.2.1 bt472.2.2.2.2.2.2.2.1 bt472.2.2.2.2.2.2.2.2.1 bt472.2.2.2.2.2.2.2.2.2.1 bt472.2.2.2.2.2.2.2.2.2.2.1 bt472.2.2.2.2.2.2.2.2.2.2.2.1 bt472.2.2.2.2.2.2.2.2.2.2.2.2.1 bt472.2.2.2.2.2.2.2.2.2.2.2.2.2.1 bt472.2.2.2.2.2.2.2.2.2.2.2.2.2.2.1 bt472.2.2.2.2.2.2.2.2.2.2.2.2.2.2.2.1 bt472.2.2.2.2.2.2.2.2.2.2.2.2.2.2.2.2.1 bt472.2.2.2.2.2.2.2.2.2.2.2.2.2.2.2.2.2.1 bt472.2.2.2.2.2.2.2.2.2.2.2.2.2.2.2.2.2.2.1 bt472.2.2.2.2.2.2.2.2.2.2.2.2.2.2.2.2.2.2.2.1 bt472.2.2.2.2.2.2.2.2.2.2.2.2.2.2.2.2.2.2.2.2.1 bt472.2.2.2.2.2.2.2.2.2.2.2.2.2.2.2.2.2.2.2.2.2.1 bt472.2.2.2.2.2.2.2.2.2.2.2.2.2.2.2.2.2.2.2.2.2.2.1 bt472.2.2.2.2.2.2.2.2.2.2.2.2.2.2.2.2.2.2.2.2.2.2.2.1 bt472.2.2.2.2.2.2.2.2.2.2.2.2.2.2.2.2.2.2.2.2.2.2.2.2.1 bt472.2.2.2.2.2.2.2.2.2.2.2.2.2.2.2.2.2.2.2.2.2.2.2.2.2.1 bt472.2.2.2.2.2.2.2.2.2.2.2.2.2.2.2.2.2.2.2.2.2.2.2.2.2.2.1 bt472.2.2.2.2.2.2.2.2.2.2.2.2.2.2.2.2.2.2.2.2.2.2.2.2.2.2.2.1 bt472.2.2.2.2.2.2.2.2.2.2.2.2.2.2.2.2.2.2.2.2.2.2.2.2.2.2.2.2))))) = some r := H
      have A10 := Aside0.mk A100
      clear A100
      replace H := Option.bind_eq_some_iff.mp H
      obtain ⟨⟨t470, t471⟩, A110, H⟩ := H
      replace H : ((laws_toFace.f a0_0 a0_1 a0_2 a0_3 a0_4 a0_5 a0_6 a0_7 a0_8 a0_9 a0_10 a0_11 a0_12 a0_13 a0_14 a0_15 a0_16 a0_17 a0_18 a0_19 a0_20 a0_21 a0_22 a0_23 a0_24 a0_25 a0_26 a0_27 l0_28).bind fun bt472 => ((impl_CentreLine.f k bt472.1 bt472.2.1 bt472.2.2.1 bt472.2.2.2.1 bt472.2.2.2.2.1 bt472.2.2.2.2.2.1 bt472.2.2.2.2.2.2.1 bt472.2.2.2.2.2.2.2.1 bt472.2.2.2.2.2.2.2.2.1 bt472.2.2.2.2.2.2.2.2.2.1 bt472.2.2.2.2.2.2.2.2.2.2.1 bt472.2.2.2.2.2.2.2.2.2.2.2.1 bt472.2.2.2.2.2.2.2.2.2.2.2.2.1 bt472.2.2.2.2.2.2.2.2.2.2.2.2.2.1 bt472.2.2.2.2.2.2.2.2.2.2.2.2.2.2.1 bt472.2.2.2.2.2.2.2.2.2.2.2.2.2.2.2.1 bt472.2.2.2.2.2.2.2.2.2.2.2.2.2.2.2.2.1 bt472.2.2.2.2.2.2.2.2.2.2.2.2.2.2.2.2.2.1 bt472.2.2.2.2.2.2.2.2.2.2.2.2.2.2.2.2.2.2.1 bt472.2.2.2.2.2.2.2.2.2.2.2.2.2.2.2.2.2.2.2.1 bt472.2.2.2.2.2.2.2.2.2.2.2.2.2.2.2.2.2.2.2.2.1 bt472.2.2.2.2.2.2.2.2.2.2.2.2.2.2.2.2.2.2.2.2.2.1 bt472.2.2.2.2.2.2.2.2.2.2.2.2.2.2.2.2.2.2.2.2.2.2.1 bt472.2.2.2.2.2.2.2.2.2.2.2.2.2.2.2.2.2.2.2.2.2.2.2.1 bt472.2.2.2.2.2.2.2.2.2.2.2.2.2.2.2.2.2.2.2.2.2.2.2.2.1 bt472.2.2.2.2.2.2.2.2.2.2.2.2.2.2.2.2.2.2.2.2.2.2.2.2.2.1 bt472.2.2.2.2.2.2.2.2.2.2.2.2.2.2.2.2.2.2.2.2.2.2.2.2.2.2.1 bt472.2.2.2.2.2.2.2.2.2.2.2.2.2.2.2.2.2.2.2.2.2.2.2.2.2.2.2.1 bt472.2.2.2.2.2.2.2.2.2.2.2.2.2.2.2.2.2.2.2.2.2.2.2.2.2.2.2.2 a1 a2).bind fun bt504 => (if bt504.1 = t470 then (laws_FnExactCentreLine.j0 k (bt504.2 != t471) a0_0 a0_1 a0_2 a0_3 a0_4 a0_5 a0_6 a0_7 a0_8 a0_9 a0_10 a0_11 a0_12 a0_13 a0_14 a0_15 a0_16 a0_17 a0_18 a0_19 a0_20 a0_21 a0_22 a0_23 a0_24 a0_25 a0_26 a0_27 l0_28 bt472.1 bt472.2.1 bt472.2.2.1 bt472.2.2.2.1 bt472.2.2.2.2.1 bt472.2.2.2.2.2.1 bt472.2.2.2.2.2.2.1 bt472.2.2.2.2.2.2.2.1 bt472.2.2.2.2.2.2.2.2.1 bt472.2.2.2.2.2.2.2.2.2.1 bt472.2.2.2.2.2.2.2.2.2.2.1 bt472.2.2.2.2.2.2.2.2.2.2.2.1 bt472.2.2.2.2.2.2.2.2.2.2.2.2.1 bt472.2.2.2.2.2.2.2.2.2.2.2.2.2.1 bt472.2.2.2.2.2.2.2.2.2.2.2.2.2.2.1 bt472.2.2.2.2.2.2.2.2.2.2.2.2.2.2.2.1 bt472.2.2.2.2.2.2.2.2.2.2.2.2.2.2.2.2.1 bt472.2.2.2.2.2.2.2.2.2.2.2.2.2.2.2.2.2.1 bt472.2.2.2.2.2.2.2.2.2.2.2.2.2.2.2.2.2.2.1 bt472.2.2.2.2.2.2.2.2.2.2.2.2.2.2.2.2.2.2.2.1 bt472.2.2.2.2.2.2.2.2.2.2.2.2.2.2.2.2.2.2.2.2.1 bt472.2.2.2.2.2.2.2.2.2.2.2.2.2.2.2.2.2.2.2.2.2.1 bt472.2.2.2.2.2.2.2.2.2.2.2.2.2.2.2.2.2.2.2.2.2.2.1 bt472.2.2.2.2.2.2.2.2.2.2.2.2.2.2.2.2.2.2.2.2.2.2.2.1 bt472.2.2.2.2.2.2.2.2.2.2.2.2.2.2.2.2.2.2.2.2.2.2.2.2.1 bt472.2.2.2.2.2.2.2.2.2.2.2.2.2.2.2.2.2.2.2.2.2.2.2.2.2.1 bt472.2.2.2.2.2.2.2.2.2.2.2.2.2.2.2.2.2.2.2.2.2.2.2.2.2.2.1 bt472.2.2.2.2.2.2.2.2.2.2.2.2.2.2.2.2.2.2.2.2.2.2.2.2.2.2.2.1 bt472.2.2.2.2.2.2.2.2.2.2.2.2.2.2.2.2.2.2.2.2.2.2.2.2.2.2.2.2) else (laws_FnExactCentreLine.j0 k true a0_0 a0_1 a0_2 a0_3 a0_4 a0_5 a0_6 a0_7 a0_8 a0_9 a0_10 a0_11 a0_12 a0_13 a0_14 a0_15 a0_16 a0_17 a0_18 a0_19 a0_20 a0_21 a0_22 a0_23 a0_24 a0_25 a0_26 a0_27 l0_28 bt472.1 bt472.2.1 bt472.2.2.1 bt472.2.2.2.1 bt472.2.2.2.2.1 bt472.2.2.2.2.2.1 bt472.2.2.2.2.2.2.1 bt472.2.2.2.2.2.2.2.1 bt472.2.2.2.2.2.2.2.2.1 bt472.2.2.2.2.2.2.2.2.2.1 bt472.2.2.2.2.2.2.2.2.2.2.1 bt472.2.2.2.2.2.2.2.2.2.2.2.1 bt472.2.2.2.2.2.2.2.2.2.2.2.2.1 bt472.2.2.2.2.2.2.2.2.2.2.2.2.2.1 bt472.2.2.2.2.2.2.2.2.2.2.2.2.2.2.1 bt472.2.2.2.2.2.2.2.2.2.2.2.2.2.2.2.1 bt472.2.2.2.2.2.2.2.2.2.2.2.2.2.2.2.2.1 bt472.2.2.2.2.2.2.2.2.2.2.2.2.2.2.2.2.2.1 bt472.2.2.2.2.2.2.2.2.2.2.2.2.2.2.2.2.2.2.1 bt472.2.2.2.2.2.2.2.2.2.2.2.2.2.2.2.2.2.2.2.1 bt472.2.2.2.2.2.2.2.2.2.2.2.2.2.2.2.2.2.2.2.2.1 bt472.2.2.2.2.2.2.2.2.2.2.2.2.2.2.2.2.2.2.2.2.2.1 bt472.2.2.2.2.2.2.2.2.2.2.2.2.2.2.2.2.2.2.2.2.2.2.1 bt472.2.2.2.2.2.2.2.2.2.2.2.2.2.2.2.2.2.2.2.2.2.2.2.1 bt472.2.2.2.2.2.2.2.2.2.2.2.2.2.2.2.2.2.2.2.2.2.2.2.2.1 bt472.2.2.2.2.2.2.2.2.2.2.2.2.2.2.2.2.2.2.2.2.2.2.2.2.2.1 bt472.2.2.2.2.2.2.2.2.2.2.2.2.2.2.2.2.2.2.2.2.2.2.2.2.2.2.1 bt472.2.2.2.2.2.2.2.2.2.2.2.2.2.2.2.2.2.2.2.2.2.2.2.2.2.2.2.1 bt472.2.2.2.2.2.2.2.2.2.2.2.2.2.2.2.2.2.2.2.2.2.2.2.2.2.2.2.2)))) = some r := H
      have A11 := Aside0.mk A110
      clear A110
      replace H := Option.bind_eq_some_iff.mp H
      obtain ⟨⟨t472, t473, t474, t475, t476, t477, t478, t479, t480, t481, t482, t483, t484, t485, t486, t487, t488, t489, t490, t491, t492, t493, t494, t495, t496, t497, t498, t499, t500⟩, A120, H⟩ := H
      replace H : ((impl_CentreLine.f k t472 t473 t474 t475 t476 t477 t478 t479 t480 t481 t482 t483 t484 t485 t486 t487 t488 t489 t490 t491 t492 t493 t494 t495 t496 t497 t498 t499 t500 a1 a2).bind fun bt504 => (if bt504.1 = t470 then (laws_FnExactCentreLine.j0 k (bt504.2 != t471) a0_0 a0_1 a0_2 a0_3 a0_4 a0_5 a0_6 a0_7 a0_8 a0_9 a0_10 a0_11 a0_12 a0_13 a0_14 a0_15 a0_16 a0_17 a0_18 a0_19 a0_20 a0_21 a0_22 a0_23 a0_24 a0_25 a0_26 a0_27 l0_28 t472 t473 t474 t475 t476 t477 t478 t479 t480 t481 t482 t483 t484 t485 t486 t487 t488 t489 t490 t491 t492 t493 t494 t495 t496 t497 t498 t499 t500) else (laws_FnExactCentreLine.j0 k true a0_0 a0_1 a0_2 a0_3 a0_4 a0_5 a0_6 a0_7 a0_8 a0_9 a0_10 a0_11 a0_12 a0_13 a0_14 a0_15 a0_16 a0_17 a0_18 a0_19 a0_20 a0_21 a0_22 a0_23 a0_24 a0_25 a0_26 a0_27 l0_28 t472 t473 t474 t475 t476 t477 t478 t479 t480 t481 t482 t483 t484 t485 t486 t487 t488 t489 t490 t491 t492 t493 t494 t495 t496 t497 t498 t499 t500))) = some r := H
      have A12 := Aside0.mk A120
      clear A120
      replace H := Option.bind_eq_some_iff.mp H
      obtain ⟨⟨t504, t505⟩, A130, H⟩ := H
      replace H : (if t504 = t470 then (laws_FnExactCentreLine.j0 k (t505 != t471) a0_0 a0_1 a0_2 a0_3 a0_4 a0_5 a0_6 a0_7 a0_8 a0_9 a0_10 a0_11 a0_12 a0_13 a0_14 a0_15 a0_16 a0_17 a0_18 a0_19 a0_20 a0_21 a0_22 a0_23 a0_24 a0_25 a0_26 a0_27 l0_28 t472 t473 t474 t475 t476 t477 t478 t479 t480 t481 t482 t483 t484 t485 t486 t487 t488 t489 t490 t491 t492 t493 t494 t495 t496 t497 t498 t499 t500) else (laws_FnExactCentreLine.j0 k true a0_0 a0_1 a0_2 a0_3 a0_4 a0_5 a0_6 a0_7 a0_8 a0_9 a0_10 a0_11 a0_12 a0_13 a0_14 a0_15 a0_16 a0_17 a0_18 a0_19 a0_20 a0_21 a0_22 a0_23 a0_24 a0_25 a0_26 a0_27 l0_28 t472 t473 t474 t475 t476 t477 t478 t479 t480 t481 t482 t483 t484 t485 t486 t487 t488 t489 t490 t491 t492 t493 t494 t495 t496 t497 t498 t499 t500)) = some r := H
      have A13 := Aside0.mk A130
      clear A130
      have HC14 := Aside0.mk H
      clear H
      go_enter Tryd.func5, Tryd.ntmps5
      go_upto_region 10 with (first | ((with_reducible refine gate_dst (N := 3) rfl ?_); refine box_event ?hg (N := 3) ?hd (cs := #[.int .i8 a0_0, .int .i8 a0_1, .int .i8 a0_2, .int .i8 a0_3, .int .i8 a0_4, .int .i8 a0_5, .int .i8 a0_6, .int .i8 a0_7, .int .i8 a0_8, .int .i8 a0_9, .int .i8 a0_10, .int .i8 a0_11, .int .i8 a0_12, .int .i8 a0_13, .int .i8 a0_14, .int .i8 a0_15, .int .i8 a0_16, .int .i8 a0_17, .int .i8 a0_18, .int .i8 a0_19, .int .i8 a0_20, .int .i8 a0_21, .int .i8 a0_22, .int .i8 a0_23, .int .i8 a0_24, .int .i8 a0_25, .int .i8 a0_26, .int .i8 a0_27, .slice A0_28 l0_28.length c0_28]) (t := 26) ?hr ?_; (case hd => rfl); (case hg => rfl); (case hr => first | (go_simp; done) | (go_simp; rfl)); intro gb437 hg w15 hbox hb; have n0_ := Aside0.mk (below_step (by repeat (first | (with_reducible first | exact HB.out | apply below_alloc | apply pw_below_drewN | apply below_drew1) | exact HB.out)) hb); have n1_ := Aside0.mk (hbox); have n2_ := Aside0.mk ((by rw [hg]; exact (below_size (by repeat (first | (with_reducible first | exact HB.out | apply below_alloc | apply pw_below_drewN | apply below_drew1) | exact HB.out))) : w.heap.size ≤ gb437)); have n3_ := Aside0.mk ((by rw [hg]; exact (below_size (by repeat (first | (with_reducible first | exact HB.out | apply below_alloc | apply pw_below_drewN | apply below_drew1) | exact HB.out))) : w.heap.size ≤ gb437)); clear HB; have HB := n0_; have BK437 := n1_; have GW437 := n2_; have GE437 := n3_; clear n0_ n1_ n2_ n3_; clear hb hbox hg) | ((with_reducible refine gate_dst (N := 16) rfl ?_); refine wpList_load_mid rfl 26 (.tmp 3) rfl gb437 0 rfl [.int .i8 a0_0, .int .i8 a0_1, .int .i8 a0_2, .int .i8 a0_3, .int .i8 a0_4, .int .i8 a0_5, .int .i8 a0_6, .int .i8 a0_7, .int .i8 a0_8, .int .i8 a0_9, .int .i8 a0_10, .int .i8 a0_11, .int .i8 a0_12, .int .i8 a0_13, .int .i8 a0_14, .int .i8 a0_15, .int .i8 a0_16, .int .i8 a0_17, .int .i8 a0_18, .int .i8 a0_19, .int .i8 a0_20, .int .i8 a0_21, .int .i8 a0_22, .int .i8 a0_23, .int .i8 a0_24, .int .i8 a0_25, .int .i8 a0_26, .int .i8 a0_27, .slice A0_28 l0_28.length c0_28] _ (range_partx_ [] [.int .i8 a0_0, .int .i8 a0_1, .int .i8 a0_2, .int .i8 a0_3, .int .i8 a0_4, .int .i8 a0_5, .int .i8 a0_6, .int .i8 a0_7, .int .i8 a0_8, .int .i8 a0_9, .int .i8 a0_10, .int .i8 a0_11, .int .i8 a0_12, .int .i8 a0_13, .int .i8 a0_14, .int .i8 a0_15, .int .i8 a0_16, .int .i8 a0_17, .int .i8 a0_18, .int .i8 a0_19, .int .i8 a0_20, .int .i8 a0_21, .int .i8 a0_22, .int .i8 a0_23, .int .i8 a0_24, .int .i8 a0_25, .int .i8 a0_26, .int .i8 a0_27, .slice A0_28 l0_28.length c0_28] [] 0 rfl (by (with_reducible repeat (first | refine blk_drewN ?_ _ | refine blk_drew ?_ | refine blk_alloc ?_ _)); exact BK437.out)) Tryd.underlying26 rfl (by exact (show (Tryd.prog.info? 26).map (·.size) = some 29 by kernel_rfl)) ?_) | ((with_reducible refine gate_callee (f := 18) rfl ?_); refine goesL_ (some 18) rfl rfl Tryd.func18 (by kernel_rfl) rfl #[.agg #[.int .i8 a0_0, .int .i8 a0_1, .int .i8 a0_2, .int .i8 a0_3, .int .i8 a0_4, .int .i8 a0_5, .int .i8 a0_6, .int .i8 a0_7, .int .i8 a0_8, .int .i8 a0_9, .int .i8 a0_10, .int .i8 a0_11, .int .i8 a0_12, .int .i8 a0_13, .int .i8 a0_14, .int .i8 a0_15, .int .i8 a0_16, .int .i8 a0_17, .int .i8 a0_18, .int .i8 a0_19, .int .i8 a0_20, .int .i8 a0_21, .int .i8 a0_22, .int .i8 a0_23, .int .i8 a0_24, .int .i8 a0_25, .int .i8 a0_26, .int .i8 a0_27, .slice A0_28 l0_28.length c0_28], .int .i64 1048576] rfl (by (try simp only [List.map_toArray, List.map_cons, List.map_nil]); first | done | rfl | (simp only [List.length_drop, List.length_take]; rfl)) ?_; (with_reducible refine (laws_szFace.calls a0_0 a0_1 a0_2 a0_3 a0_4 a0_5 a0_6 a0_7 a0_8 a0_9 a0_10 a0_11 a0_12 a0_13 a0_14 a0_15 a0_16 a0_17 a0_18 a0_19 a0_20 a0_21 a0_22 a0_23 a0_24 a0_25 a0_26 a0_27 _ _ l0_28 1048576 t438 _ ?side1 ?side2 A6.out).mono ?_); (case side1 => repeat (first | exact (Kd.C_below HR0_28.out HB.out) | (with_reducible refine Kd.C_alloc ?_ _) | (with_reducible refine Kd.C_drewN ?_ _) | (with_reducible refine Kd.C_drew ?_))); (case side2 => exact HC0_28.out); rintro e w16 ⟨rfl, hb⟩; refine ⟨_, rfl, ?_⟩; have n0_ := Aside0.mk (blk_below (g := gb437) (o := .cells #[.int .i8 a0_0, .int .i8 a0_1, .int .i8 a0_2, .int .i8 a0_3, .int .i8 a0_4, .int .i8 a0_5, .int .i8 a0_6, .int .i8 a0_7, .int .i8 a0_8, .int .i8 a0_9, .int .i8 a0_10, .int .i8 a0_11, .int .i8 a0_12, .int .i8 a0_13, .int .i8 a0_14, .int .i8 a0_15, .int .i8 a0_16, .int .i8 a0_17, .int .i8 a0_18, .int .i8 a0_19, .int .i8 a0_20, .int .i8 a0_21, .int .i8 a0_22, .int .i8 a0_23, .int .i8 a0_24, .int .i8 a0_25, .int .i8 a0_26, .int .i8 a0_27, .slice A0_28 l0_28.length c0_28] 26 (0, 0)) (by (with_reducible repeat (first | refine blk_drewN ?_ _ | refine blk_drew ?_ | refine blk_alloc ?_ _)); exact BK437.out) hb); have n1_ := Aside0.mk (below_step (by repeat (first | (with_reducible first | exact HB.out | apply below_alloc | apply pw_below_drewN | apply below_drew1 | refine below_set ?_ GE437.out) | exact HB.out)) hb); clear BK437; clear HB; have BK437 := n0_; have HB := n1_; clear n0_ n1_; (try clear hb); (try clear hb2); (try clear hk); (try clear hi)) | ((with_reducible refine gate_dst (N := 22) rfl ?_); refine wpList_load_mid rfl 26 (.tmp 3) rfl gb437 0 rfl [.int .i8 a0_0, .int .i8 a0_1, .int .i8 a0_2, .int .i8 a0_3, .int .i8 a0_4, .int .i8 a0_5, .int .i8 a0_6, .int .i8 a0_7, .int .i8 a0_8, .int .i8 a0_9, .int .i8 a0_10, .int .i8 a0_11, .int .i8 a0_12, .int .i8 a0_13, .int .i8 a0_14, .int .i8 a0_15, .int .i8 a0_16, .int .i8 a0_17, .int .i8 a0_18, .int .i8 a0_19, .int .i8 a0_20, .int .i8 a0_21, .int .i8 a0_22, .int .i8 a0_23, .int .i8 a0_24, .int .i8 a0_25, .int .i8 a0_26, .int .i8 a0_27, .slice A0_28 l0_28.length c0_28] _ (range_partx_ [] [.int .i8 a0_0, .int .i8 a0_1, .int .i8 a0_2, .int .i8 a0_3, .int .i8 a0_4, .int .i8 a0_5, .int .i8 a0_6, .int .i8 a0_7, .int .i8 a0_8, .int .i8 a0_9, .int .i8 a0_10, .int .i8 a0_11, .int .i8 a0_12, .int .i8 a0_13, .int .i8 a0_14, .int .i8 a0_15, .int .i8 a0_16, .int .i8 a0_17, .int .i8 a0_18, .int .i8 a0_19, .int .i8 a0_20, .int .i8 a0_21, .int .i8 a0_22, .int .i8 a0_23, .int .i8 a0_24, .int .i8 a0_25, .int .i8 a0_26, .int .i8 a0_27, .slice A0_28 l0_28.length c0_28] [] 0 rfl (by (with_reducible repeat (first | refine blk_drewN ?_ _ | refine blk_drew ?_ | refine blk_alloc ?_ _)); exact BK437.out)) Tryd.underlying26 rfl (by exact (show (Tryd.prog.info? 26).map (·.size) = some 29 by kernel_rfl)) ?_) | ((with_reducible refine gate_callee (f := 20) rfl ?_); refine goesL_ (some 23) rfl rfl Tryd.func20 (by kernel_rfl) rfl #[.agg #[.int .i8 a0_0, .int .i8 a0_1, .int .i8 a0_2, .int .i8 a0_3, .int .i8 a0_4, .int .i8 a0_5, .int .i8 a0_6, .int .i8 a0_7, .int .i8 a0_8, .int .i8 a0_9, .int .i8 a0_10, .int .i8 a0_11, .int .i8 a0_12, .int .i8 a0_13, .int .i8 a0_14, .int .i8 a0_15, .int .i8 a0_16, .int .i8 a0_17, .int .i8 a0_18, .int .i8 a0_19, .int .i8 a0_20, .int .i8 a0_21, .int .i8 a0_22, .int .i8 a0_23, .int .i8 a0_24, .int .i8 a0_25, .int .i8 a0_26, .int .i8 a0_27, .slice A0_28 l0_28.length c0_28]] rfl (by (try simp only [List.map_toArray, List.map_cons, List.map_nil]); first | done | rfl | (simp only [List.length_drop, List.length_take]; rfl)) ?_; (with_reducible refine (laws_toFace.calls a0_0 a0_1 a0_2 a0_3 a0_4 a0_5 a0_6 a0_7 a0_8 a0_9 a0_10 a0_11 a0_12 a0_13 a0_14 a0_15 a0_16 a0_17 a0_18 a0_19 a0_20 a0_21 a0_22 a0_23 a0_24 a0_25 a0_26 a0_27 _ _ l0_28 t439 t440 t441 t442 t443 t444 t445 t446 t447 t448 t449 t450 t451 t452 t453 t454 t455 t456 t457 t458 t459 t460 t461 t462 t463 t464 t465 t466 t467 _ ?side1 ?side2 A10.out).mono ?_); (case side1 => repeat (first | exact (Kd.C_below HR0_28.out HB.out) | (with_reducible refine Kd.C_alloc ?_ _) | (with_reducible refine Kd.C_drewN ?_ _) | (with_reducible refine Kd.C_drew ?_))); (case side2 => exact HC0_28.out); rintro e w17 ⟨v468, rfl, ho0, hb⟩; refine ⟨_, rfl, ?_⟩; have n0_ := Aside0.mk (Kd.R_lower ho0 (below_size (by repeat (first | (with_reducible first | exact HB.out | apply below_alloc | apply pw_below_drewN | apply below_drew1 | refine below_set ?_ GE437.out) | exact HB.out)))); have n1_ := Aside0.mk (blk_below (g := gb437) (o := .cells #[.int .i8 a0_0, .int .i8 a0_1, .int .i8 a0_2, .int .i8 a0_3, .int .i8 a0_4, .int .i8 a0_5, .int .i8 a0_6, .int .i8 a0_7, .int .i8 a0_8, .int .i8 a0_9, .int .i8 a0_10, .int .i8 a0_11, .int .i8 a0_12, .int .i8 a0_13, .int .i8 a0_14, .int .i8 a0_15, .int .i8 a0_16, .int .i8 a0_17, .int .i8 a0_18, .int .i8 a0_19, .int .i8 a0_20, .int .i8 a0_21, .int .i8 a0_22, .int .i8 a0_23, .int .i8 a0_24, .int .i8 a0_25, .int .i8 a0_26, .int .i8 a0_27, .slice A0_28 l0_28.length c0_28] 26 (0, 0)) (by (with_reducible repeat (first | refine blk_drewN ?_ _ | refine blk_drew ?_ | refine blk_alloc ?_ _)); exact BK437.out) hb); have n2_ := Aside0.mk (below_step (by repeat (first | (with_reducible first | exact HB.out | apply below_alloc | apply pw_below_drewN | apply below_drew1 | refine below_set ?_ GE437.out) | exact HB.out)) hb); clear BK437; clear HB; have HO469 := n0_; have BK437 := n1_; have HB := n2_; clear n0_ n1_ n2_; (try clear hb); (try clear hb2); (try clear hk); (try clear hi); (try clear ho0); obtain ⟨Ao18, co18, eo18⟩ := Kd.R_slice HO469.out; subst eo18) | ((with_reducible refine gate_callee (f := 25) rfl ?_); refine goesL_ (some 26) rfl rfl Tryd.func25 (by kernel_rfl) rfl #[.agg #[.int .i8 t439, .int .i8 t440, .int .i8 t441, .int .i8 t442, .int .i8 t443, .int .i8 t444, .int .i8 t445, .int .i8 t446, .int .i8 t447, .int .i8 t448, .int .i8 t449, .int .i8 t450, .int .i8 t451, .int .i8 t452, .int .i8 t453, .int .i8 t454, .int .i8 t455, .int .i8 t456, .int .i8 t457, .int .i8 t458, .int .i8 t459, .int .i8 t460, .int .i8 t461, .int .i8 t462, .int .i8 t463, .int .i8 t464, .int .i8 t465, .int .i8 t466, .slice Ao18 t467.length co18], .string a1, .int .i64 a2] rfl (by (try simp only [List.map_toArray, List.map_cons, List.map_nil]); first | done | rfl | (simp only [List.length_drop, List.length_take]; rfl)) ?_; (with_reducible refine (spec_CentreLine.calls k t439 t440 t441 t442 t443 t444 t445 t446 t447 t448 t449 t450 t451 t452 t453 t454 t455 t456 t457 t458 t459 t460 t461 t462 t463 t464 t465 t466 _ _ t467 a1 a2 t470 t471 _ ?side1 ?side2 A11.out).mono ?_); (case side1 => repeat (first | exact (Kd.R_reads' HO469.out).2.2 | (with_reducible refine Kd.C_alloc ?_ _) | (with_reducible refine Kd.C_drewN ?_ _) | (with_reducible refine Kd.C_drew ?_))); (case side2 => exact (Kd.R_reads' HO469.out).2.1); rintro e w19 ⟨rfl, hb⟩; refine ⟨_, rfl, ?_⟩; have n0_ := Aside0.mk (Kd.R_below (by (with_reducible repeat (first | apply Kd.R_alloc | apply Kd.R_drewN | apply Kd.R_drew)); exact HO469.out) hb); have n1_ := Aside0.mk (blk_below (g := gb437) (o := .cells #[.int .i8 a0_0, .int .i8 a0_1, .int .i8 a0_2, .int .i8 a0_3, .int .i8 a0_4, .int .i8 a0_5, .int .i8 a0_6, .int .i8 a0_7, .int .i8 a0_8, .int .i8 a0_9, .int .i8 a0_10, .int .i8 a0_11, .int .i8 a0_12, .int .i8 a0_13, .int .i8 a0_14, .int .i8 a0_15, .int .i8 a0_16, .int .i8 a0_17, .int .i8 a0_18, .int .i8 a0_19, .int .i8 a0_20, .int .i8 a0_21, .int .i8 a0_22, .int .i8 a0_23, .int .i8 a0_24, .int .i8 a0_25, .int .i8 a0_26, .int .i8 a0_27, .slice A0_28 l0_28.length c0_28] 26 (0, 0)) (by (with_reducible repeat (first | refine blk_drewN ?_ _ | refine blk_drew ?_ | refine blk_alloc ?_ _)); exact BK437.out) hb); have n2_ := Aside0.mk (below_step (by repeat (first | (with_reducible first | exact HB.out | apply below_alloc | apply pw_below_drewN | apply below_drew1 | refine below_set ?_ GE437.out) | exact HB.out)) hb); clear HO469; clear BK437; clear HB; have HO469 := n0_; have BK437 := n1_; have HB := n2_; clear n0_ n1_ n2_; (try clear hb); (try clear hb2); (try clear hk); (try clear hi)) | ((with_reducible refine gate_dst (N := 29) rfl ?_); refine wpList_load_mid rfl 26 (.tmp 3) rfl gb437 0 rfl [.int .i8 a0_0, .int .i8 a0_1, .int .i8 a0_2, .int .i8 a0_3, .int .i8 a0_4, .int .i8 a0_5, .int .i8 a0_6, .int .i8 a0_7, .int .i8 a0_8, .int .i8 a0_9, .int .i8 a0_10, .int .i8 a0_11, .int .i8 a0_12, .int .i8 a0_13, .int .i8 a0_14, .int .i8 a0_15, .int .i8 a0_16, .int .i8 a0_17, .int .i8 a0_18, .int .i8 a0_19, .int .i8 a0_20, .int .i8 a0_21, .int .i8 a0_22, .int .i8 a0_23, .int .i8 a0_24, .int .i8 a0_25, .int .i8 a0_26, .int .i8 a0_27, .slice A0_28 l0_28.length c0_28] _ (range_partx_ [] [.int .i8 a0_0, .int .i8 a0_1, .int .i8 a0_2, .int .i8 a0_3, .int .i8 a0_4, .int .i8 a0_5, .int .i8 a0_6, .int .i8 a0_7, .int .i8 a0_8, .int .i8 a0_9, .int .i8 a0_10, .int .i8 a0_11, .int .i8 a0_12, .int .i8 a0_13, .int .i8 a0_14, .int .i8 a0_15, .int .i8 a0_16, .int .i8 a0_17, .int .i8 a0_18, .int .i8 a0_19, .int .i8 a0_20, .int .i8 a0_21, .int .i8 a0_22, .int .i8 a0_23, .int .i8 a0_24, .int .i8 a0_25, .int .i8 a0_26, .int .i8 a0_27, .slice A0_28 l0_28.length c0_28] [] 0 rfl (by (with_reducible repeat (first | refine blk_drewN ?_ _ | refine blk_drew ?_ | refine blk_alloc ?_ _)); exact BK437.out)) Tryd.underlying26 rfl (by exact (show (Tryd.prog.info? 26).map (·.size) = some 29 by kernel_rfl)) ?_) | ((with_reducible refine gate_callee (f := 20) rfl ?_); refine goesL_ (some 30) rfl rfl Tryd.func20 (by kernel_rfl) rfl #[.agg #[.int .i8 a0_0, .int .i8 a0_1, .int .i8 a0_2, .int .i8 a0_3, .int .i8 a0_4, .int .i8 a0_5, .int .i8 a0_6, .int .i8 a0_7, .int .i8 a0_8, .int .i8 a0_9, .int .i8 a0_10, .int .i8 a0_11, .int .i8 a0_12, .int .i8 a0_13, .int .i8 a0_14, .int .i8 a0_15, .int .i8 a0_16, .int .i8 a0_17, .int .i8 a0_18, .int .i8 a0_19, .int .i8 a0_20, .int .i8 a0_21, .int .i8 a0_22, .int .i8 a0_23, .int .i8 a0_24, .int .i8 a0_25, .int .i8 a0_26, .int .i8 a0_27, .slice A0_28 l0_28.length c0_28]] rfl (by (try simp only [List.map_toArray, List.map_cons, List.map_nil]); first | done | rfl | (simp only [List.length_drop, List.length_take]; rfl)) ?_; (with_reducible refine (laws_toFace.calls a0_0 a0_1 a0_2 a0_3 a0_4 a0_5 a0_6 a0_7 a0_8 a0_9 a0_10 a0_11 a0_12 a0_13 a0_14 a0_15 a0_16 a0_17 a0_18 a0_19 a0_20 a0_21 a0_22 a0_23 a0_24 a0_25 a0_26 a0_27 _ _ l0_28 t472 t473 t474 t475 t476 t477 t478 t479 t480 t481 t482 t483 t484 t485 t486 t487 t488 t489 t490 t491 t492 t493 t494 t495 t496 t497 t498 t499 t500 _ ?side1 ?side2 A12.out).mono ?_); (case side1 => repeat (first | exact (Kd.C_below HR0_28.out HB.out) | (with_reducible refine Kd.C_alloc ?_ _) | (with_reducible refine Kd.C_drewN ?_ _) | (with_reducible refine Kd.C_drew ?_))); (case side2 => exact HC0_28.out); rintro e w20 ⟨v501, rfl, ho0, hb⟩; refine ⟨_, rfl, ?_⟩; have n0_ := Aside0.mk (Kd.R_elder' (by (with_reducible repeat (first | apply Kd.R_alloc | apply Kd.R_drewN | apply Kd.R_drew)); exact HO469.out) (Kd.R_base ho0) hb); have n1_ := Aside0.mk (Kd.R_lower (Kd.R_new' ho0 (Kd.R_lt (by (with_reducible repeat (first | apply Kd.R_alloc | apply Kd.R_drewN | apply Kd.R_drew)); exact HO469.out))) (below_size (by repeat (first | (with_reducible first | exact HB.out | apply below_alloc | apply pw_below_drewN | apply below_drew1 | refine below_set ?_ GE437.out) | exact HB.out)))); have n2_ := Aside0.mk (blk_below (g := gb437) (o := .cells #[.int .i8 a0_0, .int .i8 a0_1, .int .i8 a0_2, .int .i8 a0_3, .int .i8 a0_4, .int .i8 a0_5, .int .i8 a0_6, .int .i8 a0_7, .int .i8 a0_8, .int .i8 a0_9, .int .i8 a0_10, .int .i8 a0_11, .int .i8 a0_12, .int .i8 a0_13, .int .i8 a0_14, .int .i8 a0_15, .int .i8 a0_16, .int .i8 a0_17, .int .i8 a0_18, .int .i8 a0_19, .int .i8 a0_20, .int .i8 a0_21, .int .i8 a0_22, .int .i8 a0_23, .int .i8 a0_24, .int .i8 a0_25, .int .i8 a0_26, .int .i8 a0_27, .slice A0_28 l0_28.length c0_28] 26 (0, 0)) (by (with_reducible repeat (first | refine blk_drewN ?_ _ | refine blk_drew ?_ | refine blk_alloc ?_ _)); exact BK437.out) hb); have n3_ := Aside0.mk (below_step (by repeat (first | (with_reducible first | exact HB.out | apply below_alloc | apply pw_below_drewN | apply below_drew1 | refine below_set ?_ GE437.out) | exact HB.out)) hb); clear HO469; clear BK437; clear HB; have HO469 := n0_; have HO502 := n1_; have BK437 := n2_; have HB := n3_; clear n0_ n1_ n2_ n3_; (try clear hb); (try clear hb2); (try clear hk); (try clear hi); (try clear ho0)) | ((with_reducible refine gate_dst (N := 10) rfl ?_); refine box_event ?hg (N := 10) ?hd (cs := #[.int .i8 0, .int .i8 0, .int .i8 0, .int .i8 0, .int .i8 0, .int .i8 0, .int .i8 0, .int .i8 0, .int .i8 0, .int .i8 0, .int .i8 0, .int .i8 0, .int .i8 0, .int .i8 0, .int .i8 0, .int .i8 0, .int .i8 0, .int .i8 0, .int .i8 0, .int .i8 0, .int .i8 0, .int .i8 0, .int .i8 0, .int .i8 0, .int .i8 0, .int .i8 0, .int .i8 0, .int .i8 0, .slice none 0 0]) (t := 32) ?hr ?_; (case hd => rfl); (case hg => rfl); (case hr => first | (go_simp; done) | (go_simp; rfl)); intro gb503 hg w21 hbox hb; have n0_ := Aside0.mk (Kd.R_below (by (with_reducible repeat (first | apply Kd.R_alloc | apply Kd.R_drewN | apply Kd.R_drew)); exact HO469.out) hb); have n1_ := Aside0.mk (Kd.R_below (by (with_reducible repeat (first | apply Kd.R_alloc | apply Kd.R_drewN | apply Kd.R_drew)); exact HO502.out) hb); have n2_ := Aside0.mk (blk_below (g := gb437) (o := .cells #[.int .i8 a0_0, .int .i8 a0_1, .int .i8 a0_2, .int .i8 a0_3, .int .i8 a0_4, .int .i8 a0_5, .int .i8 a0_6, .int .i8 a0_7, .int .i8 a0_8, .int .i8 a0_9, .int .i8 a0_10, .int .i8 a0_11, .int .i8 a0_12, .int .i8 a0_13, .int .i8 a0_14, .int .i8 a0_15, .int .i8 a0_16, .int .i8 a0_17, .int .i8 a0_18, .int .i8 a0_19, .int .i8 a0_20, .int .i8 a0_21, .int .i8 a0_22, .int .i8 a0_23, .int .i8 a0_24, .int .i8 a0_25, .int .i8 a0_26, .int .i8 a0_27, .slice A0_28 l0_28.length c0_28] 26 (0, 0)) (by (with_reducible repeat (first | refine blk_drewN ?_ _ | refine blk_drew ?_ | refine blk_alloc ?_ _)); exact BK437.out) hb); have n3_ := Aside0.mk (below_step (by repeat (first | (with_reducible first | exact HB.out | apply below_alloc | apply pw_below_drewN | apply below_drew1 | refine below_set ?_ GE437.out) | exact HB.out)) hb); have n4_ := Aside0.mk (hbox); have n5_ := Aside0.mk ((by rw [hg]; exact (below_size (by repeat (first | (with_reducible first | exact HB.out | apply below_alloc | apply pw_below_drewN | apply below_drew1 | refine below_set ?_ GE437.out) | exact HB.out))) : w.heap.size ≤ gb503)); have n6_ := Aside0.mk ((by rw [hg]; exact (below_size (by repeat (first | (with_reducible first | exact HB.out | apply below_alloc | apply pw_below_drewN | apply below_drew1 | refine below_set ?_ GE437.out) | exact HB.out))) : w.heap.size ≤ gb503)); have n7_ := Aside0.mk ((by rw [hg]; exact Nat.ne_of_lt (blk_lt (g := gb437) (o := .cells #[.int .i8 a0_0, .int .i8 a0_1, .int .i8 a0_2, .int .i8 a0_3, .int .i8 a0_4, .int .i8 a0_5, .int .i8 a0_6, .int .i8 a0_7, .int .i8 a0_8, .int .i8 a0_9, .int .i8 a0_10, .int .i8 a0_11, .int .i8 a0_12, .int .i8 a0_13, .int .i8 a0_14, .int .i8 a0_15, .int .i8 a0_16, .int .i8 a0_17, .int .i8 a0_18, .int .i8 a0_19, .int .i8 a0_20, .int .i8 a0_21, .int .i8 a0_22, .int .i8 a0_23, .int .i8 a0_24, .int .i8 a0_25, .int .i8 a0_26, .int .i8 a0_27, .slice A0_28 l0_28.length c0_28] 26 (0, 0)) (by (with_reducible repeat (first | refine blk_drewN ?_ _ | refine blk_drew ?_ | refine blk_alloc ?_ _)); exact BK437.out)) : gb437 ≠ gb503)); have n8_ := Aside0.mk ((by rw [hg]; exact Nat.ne_of_gt (blk_lt (g := gb437) (o := .cells #[.int .i8 a0_0, .int .i8 a0_1, .int .i8 a0_2, .int .i8 a0_3, .int .i8 a0_4, .int .i8 a0_5, .int .i8 a0_6, .int .i8 a0_7, .int .i8 a0_8, .int .i8 a0_9, .int .i8 a0_10, .int .i8 a0_11, .int .i8 a0_12, .int .i8 a0_13, .int .i8 a0_14, .int .i8 a0_15, .int .i8 a0_16, .int .i8 a0_17, .int .i8 a0_18, .int .i8 a0_19, .int .i8 a0_20, .int .i8 a0_21, .int .i8 a0_22, .int .i8 a0_23, .int .i8 a0_24, .int .i8 a0_25, .int .i8 a0_26, .int .i8 a0_27, .slice A0_28 l0_28.length c0_28] 26 (0, 0)) (by (with_reducible repeat (first | refine blk_drewN ?_ _ | refine blk_drew ?_ | refine blk_alloc ?_ _)); exact BK437.out)) : gb503 ≠ gb437)); clear HO469; clear HO502; clear BK437; clear HB; have HO469 := n0_; have HO502 := n1_; have BK437 := n2_; have HB := n3_; have BK503 := n4_; have GW503 := n5_; have GE503 := n6_; have NB437_503 := n7_; have NB503_437 := n8_; clear n0_ n1_ n2_ n3_ n4_ n5_ n6_ n7_ n8_; clear hb hbox hg; obtain ⟨Ao22, co22, eo22⟩ := Kd.R_slice HO502.out; subst eo22) | ((with_reducible refine gate_store (t := 32) (p := 10) rfl ?_); refine ev_store_partx_ rfl 32 (.tmp 10) (.tmp 30) rfl rfl gb503 0 [] [.int .i8 0, .int .i8 0, .int .i8 0, .int .i8 0, .int .i8 0, .int .i8 0, .int .i8 0, .int .i8 0, .int .i8 0, .int .i8 0, .int .i8 0, .int .i8 0, .int .i8 0, .int .i8 0, .int .i8 0, .int .i8 0, .int .i8 0, .int .i8 0, .int .i8 0, .int .i8 0, .int .i8 0, .int .i8 0, .int .i8 0, .int .i8 0, .int .i8 0, .int .i8 0, .int .i8 0, .int .i8 0, .slice none 0 0] [.int .i8 t472, .int .i8 t473, .int .i8 t474, .int .i8 t475, .int .i8 t476, .int .i8 t477, .int .i8 t478, .int .i8 t479, .int .i8 t480, .int .i8 t481, .int .i8 t482, .int .i8 t483, .int .i8 t484, .int .i8 t485, .int .i8 t486, .int .i8 t487, .int .i8 t488, .int .i8 t489, .int .i8 t490, .int .i8 t491, .int .i8 t492, .int .i8 t493, .int .i8 t494, .int .i8 t495, .int .i8 t496, .int .i8 t497, .int .i8 t498, .int .i8 t499, .slice Ao22 t500.length co22] [] rfl rfl 32 rfl rfl (by (with_reducible repeat (first | refine blk_drewN ?_ _ | refine blk_drew ?_ | refine blk_alloc ?_ _)); exact BK503.out) (by exact (show (Tryd.prog.info? 32).map (·.size) = some 29 by kernel_rfl)) rfl ?_; intro w23 hblk hkep hbel; have n0_ := Aside0.mk ((show w23.heap[gb503]? = some (.cells #[.int .i8 t472, .int .i8 t473, .int .i8 t474, .int .i8 t475, .int .i8 t476, .int .i8 t477, .int .i8 t478, .int .i8 t479, .int .i8 t480, .int .i8 t481, .int .i8 t482, .int .i8 t483, .int .i8 t484, .int .i8 t485, .int .i8 t486, .int .i8 t487, .int .i8 t488, .int .i8 t489, .int .i8 t490, .int .i8 t491, .int .i8 t492, .int .i8 t493, .int .i8 t494, .int .i8 t495, .int .i8 t496, .int .i8 t497, .int .i8 t498, .int .i8 t499, .slice Ao22 t500.length co22] 32 (0, 0)) from hblk)); have n1_ := Aside0.mk (blk_kept (by (with_reducible repeat (first | refine blk_drewN ?_ _ | refine blk_drew ?_ | refine blk_alloc ?_ _)); exact BK437.out) hkep (fun e_ => NB437_503.out e_)); have n2_ := Aside0.mk (Kd.R_mono (Kd.R_kept (Kd.R_types (by (with_reducible repeat (first | apply Kd.R_alloc | apply Kd.R_drewN | apply Kd.R_drew)); exact HO469.out) (by (with_reducible repeat (first | refine blk_drewN ?_ _ | refine blk_drew ?_ | refine blk_alloc ?_ _)); exact BK503.out) (by decide)) hkep (fun k_ hk e_ => hk.2 e_)) (fun k_ hk => hk.1)); have n3_ := Aside0.mk (Kd.R_mono (Kd.R_kept (Kd.R_types (by (with_reducible repeat (first | apply Kd.R_alloc | apply Kd.R_drewN | apply Kd.R_drew)); exact HO502.out) (by (with_reducible repeat (first | refine blk_drewN ?_ _ | refine blk_drew ?_ | refine blk_alloc ?_ _)); exact BK503.out) (by decide)) hkep (fun k_ hk e_ => hk.2 e_)) (fun k_ hk => hk.1)); have n4_ := Aside0.mk ((show Below w.heap.size w w23 from Below.trans (by repeat (first | (with_reducible first | exact HB.out | apply below_alloc | apply pw_below_drewN | apply below_drew1 | refine below_set ?_ GE437.out | refine below_set ?_ GE503.out) | exact HB.out)) (hbel _ GW503.out))); clear BK503; clear BK437; clear HO469; clear HO502; clear HB; have BK503 := n0_; have BK437 := n1_; have HO469 := n2_; have HO502 := n3_; have HB := n4_; clear n0_ n1_ n2_ n3_ n4_; clear hblk hkep hbel) | ((with_reducible refine gate_dst (N := 32) rfl ?_); refine wpList_load_mid rfl 32 (.tmp 10) rfl gb503 0 rfl [.int .i8 t472, .int .i8 t473, .int .i8 t474, .int .i8 t475, .int .i8 t476, .int .i8 t477, .int .i8 t478, .int .i8 t479, .int .i8 t480, .int .i8 t481, .int .i8 t482, .int .i8 t483, .int .i8 t484, .int .i8 t485, .int .i8 t486, .int .i8 t487, .int .i8 t488, .int .i8 t489, .int .i8 t490, .int .i8 t491, .int .i8 t492, .int .i8 t493, .int .i8 t494, .int .i8 t495, .int .i8 t496, .int .i8 t497, .int .i8 t498, .int .i8 t499, .slice Ao22 t500.length co22] _ (range_partx_ [] [.int .i8 t472, .int .i8 t473, .int .i8 t474, .int .i8 t475, .int .i8 t476, .int .i8 t477, .int .i8 t478, .int .i8 t479, .int .i8 t480, .int .i8 t481, .int .i8 t482, .int .i8 t483, .int .i8 t484, .int .i8 t485, .int .i8 t486, .int .i8 t487, .int .i8 t488, .int .i8 t489, .int .i8 t490, .int .i8 t491, .int .i8 t492, .int .i8 t493, .int .i8 t494, .int .i8 t495, .int .i8 t496, .int .i8 t497, .int .i8 t498, .int .i8 t499, .slice Ao22 t500.length co22] [] 0 rfl (by (with_reducible repeat (first | refine blk_drewN ?_ _ | refine blk_drew ?_ | refine blk_alloc ?_ _)); exact BK503.out)) Tryd.underlying32 rfl (by exact (show (Tryd.prog.info? 32).map (·.size) = some 29 by kernel_rfl)) ?_) | ((with_reducible refine gate_callee (f := 26) rfl ?_); refine goesL_ (some 35) rfl rfl Tryd.func26 (by kernel_rfl) rfl #[.agg #[.int .i8 t472, .int .i8 t473, .int .i8 t474, .int .i8 t475, .int .i8 t476, .int .i8 t477, .int .i8 t478, .int .i8 t479, .int .i8 t480, .int .i8 t481, .int .i8 t482, .int .i8 t483, .int .i8 t484, .int .i8 t485, .int .i8 t486, .int .i8 t487, .int .i8 t488, .int .i8 t489, .int .i8 t490, .int .i8 t491, .int .i8 t492, .int .i8 t493, .int .i8 t494, .int .i8 t495, .int .i8 t496, .int .i8 t497, .int .i8 t498, .int .i8 t499, .slice Ao22 t500.length co22], .string a1, .int .i64 a2] rfl (by (try simp only [List.map_toArray, List.map_cons, List.map_nil]); first | done | rfl | (simp only [List.length_drop, List.length_take]; rfl)) ?_; (with_reducible refine (impl_CentreLine.calls k t472 t473 t474 t475 t476 t477 t478 t479 t480 t481 t482 t483 t484 t485 t486 t487 t488 t489 t490 t491 t492 t493 t494 t495 t496 t497 t498 t499 _ _ t500 a1 a2 t504 t505 _ ?side1 ?side2 ?sideG A13.out).mono ?_); (case sideG => first | exact HG.out.below (by repeat (first | (with_reducible first | exact HB.out | apply below_alloc | apply pw_below_drewN | apply below_drew1) | exact HB.out)) | exact (HG.out.below (by repeat (first | (with_reducible first | exact HB.out | apply below_alloc | apply pw_below_drewN | apply below_drew1) | exact HB.out))).toM); (case side1 => repeat (first | exact (Kd.R_reads' HO502.out).2.2 | (with_reducible refine Kd.C_alloc ?_ _) | (with_reducible refine Kd.C_drewN ?_ _) | (with_reducible refine Kd.C_drew ?_))); (case side2 => exact (Kd.R_reads' HO502.out).2.1); rintro e w24 ⟨rfl, hb⟩; refine ⟨_, rfl, ?_⟩; have n0_ := Aside0.mk (Kd.R_below (by (with_reducible repeat (first | apply Kd.R_alloc | apply Kd.R_drewN | apply Kd.R_drew)); exact HO469.out) hb); have n1_ := Aside0.mk (Kd.R_below (by (with_reducible repeat (first | apply Kd.R_alloc | apply Kd.R_drewN | apply Kd.R_drew)); exact HO502.out) hb); have n2_ := Aside0.mk (blk_below (g := gb437) (o := .cells #[.int .i8 a0_0, .int .i8 a0_1, .int .i8 a0_2, .int .i8 a0_3, .int .i8 a0_4, .int .i8 a0_5, .int .i8 a0_6, .int .i8 a0_7, .int .i8 a0_8, .int .i8 a0_9, .int .i8 a0_10, .int .i8 a0_11, .int .i8 a0_12, .int .i8 a0_13, .int .i8 a0_14, .int .i8 a0_15, .int .i8 a0_16, .int .i8 a0_17, .int .i8 a0_18, .int .i8 a0_19, .int .i8 a0_20, .int .i8 a0_21, .int .i8 a0_22, .int .i8 a0_23, .int .i8 a0_24, .int .i8 a0_25, .int .i8 a0_26, .int .i8 a0_27, .slice A0_28 l0_28.length c0_28] 26 (0, 0)) (by (with_reducible repeat (first | refine blk_drewN ?_ _ | refine blk_drew ?_ | refine blk_alloc ?_ _)); exact BK437.out) hb); have n3_ := Aside0.mk (blk_below (g := gb503) (o := .cells #[.int .i8 t472, .int .i8 t473, .int .i8 t474, .int .i8 t475, .int .i8 t476, .int .i8 t477, .int .i8 t478, .int .i8 t479, .int .i8 t480, .int .i8 t481, .int .i8 t482, .int .i8 t483, .int .i8 t484, .int .i8 t485, .int .i8 t486, .int .i8 t487, .int .i8 t488, .int .i8 t489, .int .i8 t490, .int .i8 t491, .int .i8 t492, .int .i8 t493, .int .i8 t494, .int .i8 t495, .int .i8 t496, .int .i8 t497, .int .i8 t498, .int .i8 t499, .slice Ao22 t500.length co22] 32 (0, 0)) (by (with_reducible repeat (first | refine blk_drewN ?_ _ | refine blk_drew ?_ | refine blk_alloc ?_ _)); exact BK503.out) hb); have n4_ := Aside0.mk (below_step (by repeat (first | (with_reducible first | exact HB.out | apply below_alloc | apply pw_below_drewN | apply below_drew1 | refine below_set ?_ GE437.out | refine below_set ?_ GE503.out) | exact HB.out)) hb); clear HO469; clear HO502; clear BK437; clear BK503; clear HB; have HO469 := n0_; have HO502 := n1_; have BK437 := n2_; have BK503 := n3_; have HB := n4_; clear n0_ n1_ n2_ n3_ n4_; (try clear hb); (try clear hb2); (try clear hk); (try clear hi)))
      (try simp only [Act.put, List.setIfInBounds_toArray, List.set_cons_zero, List.set_cons_succ])
      go_cut [45] (fun v45 wc => ∃ (kq : Nat) (x45_13 : Bool), v45 = .bool x45_13 ∧ Aside0 (laws_FnExactCentreLine.j0 kq x45_13 a0_0 a0_1 a0_2 a0_3 a0_4 a0_5 a0_6 a0_7 a0_8 a0_9 a0_10 a0_11 a0_12 a0_13 a0_14 a0_15 a0_16 a0_17 a0_18 a0_19 a0_20 a0_21 a0_22 a0_23 a0_24 a0_25 a0_26 a0_27 l0_28 t472 t473 t474 t475 t476 t477 t478 t479 t480 t481 t482 t483 t484 t485 t486 t487 t488 t489 t490 t491 t492 t493 t494 t495 t496 t497 t498 t499 t500 = some r) ∧ Aside0 (kq ≤ k) ∧ Aside0 (Kd.R k137 137 wc w.heap.size (fun _ => True) (.slice Ao22 t500.length co22) t500) ∧ Aside0 (wc.heap[gb437]? = some (.cells #[.int .i8 a0_0, .int .i8 a0_1, .int .i8 a0_2, .int .i8 a0_3, .int .i8 a0_4, .int .i8 a0_5, .int .i8 a0_6, .int .i8 a0_7, .int .i8 a0_8, .int .i8 a0_9, .int .i8 a0_10, .int .i8 a0_11, .int .i8 a0_12, .int .i8 a0_13, .int .i8 a0_14, .int .i8 a0_15, .int .i8 a0_16, .int .i8 a0_17, .int .i8 a0_18, .int .i8 a0_19, .int .i8 a0_20, .int .i8 a0_21, .int .i8 a0_22, .int .i8 a0_23, .int .i8 a0_24, .int .i8 a0_25, .int .i8 a0_26, .int .i8 a0_27, (.slice A0_28 l0_28.length c0_28)] 26 (0, 0))) ∧ Aside0 (wc.heap[gb503]? = some (.cells #[.int .i8 t472, .int .i8 t473, .int .i8 t474, .int .i8 t475, .int .i8 t476, .int .i8 t477, .int .i8 t478, .int .i8 t479, .int .i8 t480, .int .i8 t481, .int .i8 t482, .int .i8 t483, .int .i8 t484, .int .i8 t485, .int .i8 t486, .int .i8 t487, .int .i8 t488, .int .i8 t489, .int .i8 t490, .int .i8 t491, .int .i8 t492, .int .i8 t493, .int .i8 t494, .int .i8 t495, .int .i8 t496, .int .i8 t497, .int .i8 t498, .int .i8 t499, (.slice Ao22 t500.length co22)] 32 (0, 0))) ∧ Aside0 (Below w.heap.size w wc))
      case first =>
        have H := HC14.out
        clear HC14
        by_cases c25 : t504 = t470
        · rw [if_pos c25] at H
          have c25b0 : (t504 == t470) = true := beq_iff_eq.mpr c25
          have c25b1 : (t504 != t470) = false := bne_eq_false_iff_eq.mpr c25
          clear c25
          (first | rw [c25b0] | (simp only [i64_w, i32_w]; rw [c25b0]) | skip)
          have H' := Aside0.mk H
          clear H
          go_wp2
          go_meet
          case rel => exact ⟨_, ((t505 != t471)), (by first | rfl | (simp; done) | (simp [*]; done)), H', ⟨by first | omega | exact Nat.le_refl _⟩, ⟨by (with_reducible repeat (first | apply Kd.R_alloc | apply Kd.R_drewN | apply Kd.R_drew)); exact Kd.R_mono HO502.out (fun _ hk => trivial)⟩, ⟨by (with_reducible repeat (first | refine blk_drewN ?_ _ | refine blk_drew ?_ | refine blk_alloc ?_ _)); exact BK437.out⟩, ⟨by (with_reducible repeat (first | refine blk_drewN ?_ _ | refine blk_drew ?_ | refine blk_alloc ?_ _)); exact BK503.out⟩, ⟨by repeat (first | (with_reducible first | exact HB.out | apply below_alloc | apply pw_below_drewN | apply below_drew1 | refine below_set ?_ GE437.out | refine below_set ?_ GE503.out) | exact HB.out)⟩⟩
        · rw [if_neg c25] at H
          have c25b0 : (t504 == t470) = false := beq_eq_false_iff_ne.mpr c25
          have c25b1 : (t504 != t470) = true := bne_iff_ne.mpr c25
          (first | rw [c25b0] | (simp only [i64_w, i32_w]; rw [c25b0]) | skip)
          have H' := Aside0.mk H
          clear H
          go_wp2
          go_meet
          case rel => exact ⟨_, (true), (by first | rfl | (simp; done) | (simp [*]; done)), H', ⟨by first | omega | exact Nat.le_refl _⟩, ⟨by (with_reducible repeat (first | apply Kd.R_alloc | apply Kd.R_drewN | apply Kd.R_drew)); exact Kd.R_mono HO502.out (fun _ hk => trivial)⟩, ⟨by (with_reducible repeat (first | refine blk_drewN ?_ _ | refine blk_drew ?_ | refine blk_alloc ?_ _)); exact BK437.out⟩, ⟨by (with_reducible repeat (first | refine blk_drewN ?_ _ | refine blk_drew ?_ | refine blk_alloc ?_ _)); exact BK503.out⟩, ⟨by repeat (first | (with_reducible first | exact HB.out | apply below_alloc | apply pw_below_drewN | apply below_drew1 | refine below_set ?_ GE437.out | refine below_set ?_ GE503.out) | exact HB.out)⟩⟩
      case rest =>
        clear HC14
        try clear c1
        try clear c2
        try clear p2
        try clear c4
        try clear c4b0
        try clear c4b1
        try clear c5
        try clear c7
        try clear c7b0
        try clear c18
        try clear c20
        try clear c25
        try clear c25b0
        try clear c25b1
        obtain ⟨kq, x45_13, rfl, HA, HJ13, HO_504028, BK437, BK503, HB⟩ := hcut
        cases kq with
        | zero => exact absurd HA.out (by simp [laws_FnExactCentreLine.j0])
        | succ kj13 =>
          have H := HA.out
          clear HA
          simp only [laws_FnExactCentreLine.j0] at H
          by_cases c26 : x45_13 = true
          · subst c26
            have H1 : (some false) = some r := by rw [if_pos rfl] at H; exact H
            clear H
            have H := H1
            clear H1
            obtain rfl := Option.some.inj H
            go_wp2
            go_ret
            exact ⟨by first | rfl | (simp [errW_none, errW_some] <;> rfl) | (simp [*, errW_none, errW_some] <;> rfl), by repeat (first | (with_reducible first | exact HB.out | apply below_alloc | apply pw_below_drewN | apply below_drew1 | refine below_set ?_ GE437.out | refine below_set ?_ GE503.out) | exact HB.out)⟩
          · replace c26 := Bool.eq_false_iff.mpr c26
            subst c26
            have H1 : ((laws_toFace.f a0_0 a0_1 a0_2 a0_3 a0_4 a0_5 a0_6 a0_7 a0_8 a0_9 a0_10 a0_11 a0_12 a0_13 a0_14 a0_15 a0_16 a0_17 a0_18 a0_19 a0_20 a0_21 a0_22 a0_23 a0_24 a0_25 a0_26 a0_27 l0_28).bind fun bt506 => ((laws_eqFace.f kj13 t472 t473 t474 t475 t476 t477 t478 t479 t480 t481 t482 t483 t484 t485 t486 t487 t488 t489 t490 t491 t492 t493 t494 t495 t496 t497 t498 t499 t500 bt506.1 bt506.2.1 bt506.2.2.1 bt506.2.2.2.1 bt506.2.2.2.2.1 bt506.2.2.2.2.2.1 bt506.2.2.2.2.2.2.1 bt506.2.2.2.2.2.2.2.1 bt506.2.2.2.2.2.2.2.2.1 bt506.2.2.2.2.2.2.2.2.2.1 bt506.2.2.2.2.2.2.2.2.2.2.1 bt506.2.2.2.2.2.2.2.2.2.2.2.1 bt506.2.2.2.2.2.2.2.2.2.2.2.2.1 bt506.2.2.2.2.2.2.2.2.2.2.2.2.2.1 bt506.2.2.2.2.2.2.2.2.2.2.2.2.2.2.1 bt506.2.2.2.2.2.2.2.2.2.2.2.2.2.2.2.1 bt506.2.2.2.2.2.2.2.2.2.2.2.2.2.2.2.2.1 bt506.2.2.2.2.2.2.2.2.2.2.2.2.2.2.2.2.2.1 bt506.2.2.2.2.2.2.2.2.2.2.2.2.2.2.2.2.2.2.1 bt506.2.2.2.2.2.2.2.2.2.2.2.2.2.2.2.2.2.2.2.1 bt506.2.2.2.2.2.2.2.2.2.2.2.2.2.2.2.2.2.2.2.2.1 bt506.2.2.2.2.2.2.2.2.2.2.2.2.2.2.2.2.2.2.2.2.2.1 bt506.2.2.2.2.2.2.2.2.2.2.2.2.2.2.2.2.2.2.2.2.2.2.1 bt506.2.2.2.2.2.2.2.2.2.2.2.2.2.2.2.2.2.2.2.2.2.2.2.1 bt506.2.2.2.2.2.2.2.2.2.2.2.2.2.2.2.2.2.2.2.2.2.2.2.2.1 bt506.2.2.2.2.2.2.2.2.2.2.2.2.2.2.2.2.2.2.2.2.2.2.2.2.2.1 bt506.2.2.2.2.2.2.2.2.2.2.2.2.2.2.2.2.2.2.2.2.2.2.2.2.2.2.1 bt506.2.2.2.2.2.2.2.2.2.2.2.2.2.2.2.2.2.2.2.2.2.2.2.2.2.2.2.1 bt506.2.2.2.2.2.2.2.2.2.2.2.2.2.2.2.2.2.2.2.2.2.2.2.2.2.2.2.2).bind fun t537 => (if t537 = true then (some true) else (some false)))) = some r := by rw [if_neg (show ¬ (false = true) by decide)] at H; exact H
            clear H
            have H := H1
            clear H1
            replace H := Option.bind_eq_some_iff.mp H
            obtain ⟨⟨t506, t507, t508, t509, t510, t511, t512, t513, t514, t515, t516, t517, t518, t519, t520, t521, t522, t523, t524, t525, t526, t527, t528, t529, t530, t531, t532, t533, t534⟩, A270, H⟩ := H
            replace H : ((laws_eqFace.f kj13 t472 t473 t474 t475 t476 t477 t478 t479 t480 t481 t482 t483 t484 t485 t486 t487 t488 t489 t490 t491 t492 t493 t494 t495 t496 t497 t498 t499 t500 t506 t507 t508 t509 t510 t511 t512 t513 t514 t515 t516 t517 t518 t519 t520 t521 t522 t523 t524 t525 t526 t527 t528 t529 t530 t531 t532 t533 t534).bind fun t537 => (if t537 = true then (some true) else (some false))) = some r := H
            have A27 := Aside0.mk A270
            clear A270
            replace H := Option.bind_eq_some_iff.mp H
            obtain ⟨t537, A280, H⟩ := H
            replace H : (if t537 = true then (some true) else (some false)) = some r := H
            have A28 := Aside0.mk A280
            clear A280
            by_cases c29 : t537 = true
            · subst c29
              have H1 : (some true) = some r := by rw [if_pos rfl] at H; exact H
              clear H
              have H := H1
              clear H1
              obtain rfl := Option.some.inj H
              try go_wp2
              have n0_ := Aside0.mk (Kd.R_drew HO_504028.out)
              have n1_ := Aside0.mk (blk_drew BK437.out)
              have n2_ := Aside0.mk (blk_drew BK503.out)
              have n3_ := Aside0.mk (below_drew1 HB.out)
              clear HO_504028
              clear BK437
              clear BK503
              clear HB
              have HO_504028 := n0_
              have BK437 := n1_
              have BK503 := n2_
              have HB := n3_
              clear n0_ n1_ n2_ n3_
              refine start_ (n := 5) (S := fun w' => w'.heap[gb503]? = some (.cells #[.int .i8 t472, .int .i8 t473, .int .i8 t474, .int .i8 t475, .int .i8 t476, .int .i8 t477, .int .i8 t478, .int .i8 t479, .int .i8 t480, .int .i8 t481, .int .i8 t482, .int .i8 t483, .int .i8 t484, .int .i8 t485, .int .i8 t486, .int .i8 t487, .int .i8 t488, .int .i8 t489, .int .i8 t490, .int .i8 t491, .int .i8 t492, .int .i8 t493, .int .i8 t494, .int .i8 t495, .int .i8 t496, .int .i8 t497, .int .i8 t498, .int .i8 t499, .slice Ao22 t500.length co22] 32 (0, 0)) ∧ w'.heap[gb437]? = some (.cells #[.int .i8 a0_0, .int .i8 a0_1, .int .i8 a0_2, .int .i8 a0_3, .int .i8 a0_4, .int .i8 a0_5, .int .i8 a0_6, .int .i8 a0_7, .int .i8 a0_8, .int .i8 a0_9, .int .i8 a0_10, .int .i8 a0_11, .int .i8 a0_12, .int .i8 a0_13, .int .i8 a0_14, .int .i8 a0_15, .int .i8 a0_16, .int .i8 a0_17, .int .i8 a0_18, .int .i8 a0_19, .int .i8 a0_20, .int .i8 a0_21, .int .i8 a0_22, .int .i8 a0_23, .int .i8 a0_24, .int .i8 a0_25, .int .i8 a0_26, .int .i8 a0_27, .slice A0_28 l0_28.length c0_28] 26 (0, 0))) (ds := []) #[false, false, false, false, false] (by kernel_rfl) rfl rfl ⟨BK503.out, BK437.out⟩ (fun hHeld => ?_)
              generalize wc.drew = w30 at HO_504028 BK437 BK503 HB hHeld ⊢
              refine take_ (i := 0) (N := some 46) (v := ?_) (a' := ?_) #[true, false, false, false, false] rfl rfl (by kernel_rfl) (fun _ _ _ h => h) (Or.inl ⟨by rfl, ?_⟩) hHeld ?_ ?_
              rotate_left
              · rintro w' ⟨s0, s1⟩
                refine exec_load_partx_ 32 (.tmp 10) _ 0 [] [.int .i8 t472, .int .i8 t473, .int .i8 t474, .int .i8 t475, .int .i8 t476, .int .i8 t477, .int .i8 t478, .int .i8 t479, .int .i8 t480, .int .i8 t481, .int .i8 t482, .int .i8 t483, .int .i8 t484, .int .i8 t485, .int .i8 t486, .int .i8 t487, .int .i8 t488, .int .i8 t489, .int .i8 t490, .int .i8 t491, .int .i8 t492, .int .i8 t493, .int .i8 t494, .int .i8 t495, .int .i8 t496, .int .i8 t497, .int .i8 t498, .int .i8 t499, .slice Ao22 t500.length co22] [] rfl s0 ?_ ?_ Tryd.underlying32 rfl (by exact (show (Tryd.prog.info? 32).map (·.size) = some 29 by kernel_rfl))
                · rfl
                · rfl
              rotate_left
              · simp only [Act.put, List.setIfInBounds_toArray, List.set_cons_zero, List.set_cons_succ, i64_w, i32_w, u8_w_]
                rfl
              refine take_ (i := 1) (N := some 47) (v := ?_) (a' := ?_) #[true, true, false, false, false] rfl rfl (by kernel_rfl) (fun _ _ _ h => h) (Or.inl ⟨by rfl, ?_⟩) hHeld ?_ ?_
              rotate_left
              · rintro w' ⟨s0, s1⟩
                refine exec_load_partx_ 26 (.tmp 3) _ 0 [] [.int .i8 a0_0, .int .i8 a0_1, .int .i8 a0_2, .int .i8 a0_3, .int .i8 a0_4, .int .i8 a0_5, .int .i8 a0_6, .int .i8 a0_7, .int .i8 a0_8, .int .i8 a0_9, .int .i8 a0_10, .int .i8 a0_11, .int .i8 a0_12, .int .i8 a0_13, .int .i8 a0_14, .int .i8 a0_15, .int .i8 a0_16, .int .i8 a0_17, .int .i8 a0_18, .int .i8 a0_19, .int .i8 a0_20, .int .i8 a0_21, .int .i8 a0_22, .int .i8 a0_23, .int .i8 a0_24, .int .i8 a0_25, .int .i8 a0_26, .int .i8 a0_27, .slice A0_28 l0_28.length c0_28] [] rfl s1 ?_ ?_ Tryd.underlying26 rfl (by exact (show (Tryd.prog.info? 26).map (·.size) = some 29 by kernel_rfl))
                · rfl
                · rfl
              rotate_left
              · simp only [Act.put, List.setIfInBounds_toArray, List.set_cons_zero, List.set_cons_succ, i64_w, i32_w, u8_w_]
                rfl
              refine one_ (i := 2) (N := some 48) #[true, true, true, false, false] rfl rfl (by kernel_rfl) (by decide) (fun K hK => ?_)
              refine goes_ Tryd.func20 (by kernel_rfl) rfl #[.agg #[.int .i8 a0_0, .int .i8 a0_1, .int .i8 a0_2, .int .i8 a0_3, .int .i8 a0_4, .int .i8 a0_5, .int .i8 a0_6, .int .i8 a0_7, .int .i8 a0_8, .int .i8 a0_9, .int .i8 a0_10, .int .i8 a0_11, .int .i8 a0_12, .int .i8 a0_13, .int .i8 a0_14, .int .i8 a0_15, .int .i8 a0_16, .int .i8 a0_17, .int .i8 a0_18, .int .i8 a0_19, .int .i8 a0_20, .int .i8 a0_21, .int .i8 a0_22, .int .i8 a0_23, .int .i8 a0_24, .int .i8 a0_25, .int .i8 a0_26, .int .i8 a0_27, .slice A0_28 l0_28.length c0_28]] (by rfl) rfl rfl (by (try simp only [List.map_toArray, List.map_cons, List.map_nil]); first | done | rfl | (simp only [List.length_drop, List.length_take]; rfl)) ?_
              with_reducible refine (laws_toFace.calls a0_0 a0_1 a0_2 a0_3 a0_4 a0_5 a0_6 a0_7 a0_8 a0_9 a0_10 a0_11 a0_12 a0_13 a0_14 a0_15 a0_16 a0_17 a0_18 a0_19 a0_20 a0_21 a0_22 a0_23 a0_24 a0_25 a0_26 a0_27 _ _ l0_28 t506 t507 t508 t509 t510 t511 t512 t513 t514 t515 t516 t517 t518 t519 t520 t521 t522 t523 t524 t525 t526 t527 t528 t529 t530 t531 t532 t533 t534 _ ?side1 ?side2 A27.out).mono ?_
              (case side1 => repeat (first | exact (Kd.C_below HR0_28.out HB.out) | (with_reducible refine Kd.C_alloc ?_ _) | (with_reducible refine Kd.C_drewN ?_ _) | (with_reducible refine Kd.C_drew ?_)))
              (case side2 => exact HC0_28.out)
              rintro e w31 ⟨v535, rfl, ho0, hb⟩
              refine ⟨_, rfl, ?_⟩
              have n0_ := Aside0.mk (Kd.R_elder' (by (with_reducible repeat (first | apply Kd.R_alloc | apply Kd.R_drewN | apply Kd.R_drew)); exact HO_504028.out) (Kd.R_base ho0) hb)
              have n1_ := Aside0.mk (Kd.R_lower (Kd.R_new' ho0 (Kd.R_lt (by (with_reducible repeat (first | apply Kd.R_alloc | apply Kd.R_drewN | apply Kd.R_drew)); exact HO_504028.out))) (below_size (by repeat (first | (with_reducible first | exact HB.out | apply below_alloc | apply pw_below_drewN | apply below_drew1 | refine below_set ?_ GE437.out | refine below_set ?_ GE503.out) | exact HB.out))))
              have n2_ := Aside0.mk (blk_below (g := gb437) (o := .cells #[.int .i8 a0_0, .int .i8 a0_1, .int .i8 a0_2, .int .i8 a0_3, .int .i8 a0_4, .int .i8 a0_5, .int .i8 a0_6, .int .i8 a0_7, .int .i8 a0_8, .int .i8 a0_9, .int .i8 a0_10, .int .i8 a0_11, .int .i8 a0_12, .int .i8 a0_13, .int .i8 a0_14, .int .i8 a0_15, .int .i8 a0_16, .int .i8 a0_17, .int .i8 a0_18, .int .i8 a0_19, .int .i8 a0_20, .int .i8 a0_21, .int .i8 a0_22, .int .i8 a0_23, .int .i8 a0_24, .int .i8 a0_25, .int .i8 a0_26, .int .i8 a0_27, .slice A0_28 l0_28.length c0_28] 26 (0, 0)) (by (with_reducible repeat (first | refine blk_drewN ?_ _ | refine blk_drew ?_ | refine blk_alloc ?_ _)); exact BK437.out) hb)
              have n3_ := Aside0.mk (blk_below (g := gb503) (o := .cells #[.int .i8 t472, .int .i8 t473, .int .i8 t474, .int .i8 t475, .int .i8 t476, .int .i8 t477, .int .i8 t478, .int .i8 t479, .int .i8 t480, .int .i8 t481, .int .i8 t482, .int .i8 t483, .int .i8 t484, .int .i8 t485, .int .i8 t486, .int .i8 t487, .int .i8 t488, .int .i8 t489, .int .i8 t490, .int .i8 t491, .int .i8 t492, .int .i8 t493, .int .i8 t494, .int .i8 t495, .int .i8 t496, .int .i8 t497, .int .i8 t498, .int .i8 t499, .slice Ao22 t500.length co22] 32 (0, 0)) (by (with_reducible repeat (first | refine blk_drewN ?_ _ | refine blk_drew ?_ | refine blk_alloc ?_ _)); exact BK503.out) hb)
              have n4_ := Aside0.mk (below_step (by repeat (first | (with_reducible first | exact HB.out | apply below_alloc | apply pw_below_drewN | apply below_drew1 | refine below_set ?_ GE437.out | refine below_set ?_ GE503.out) | exact HB.out)) hb)
              clear HO_504028
              clear BK437
              clear BK503
              clear HB
              have HO_504028 := n0_
              have HO536 := n1_
              have BK437 := n2_
              have BK503 := n3_
              have HB := n4_
              clear n0_ n1_ n2_ n3_ n4_
              (try clear hb)
              (try clear hb2)
              (try clear hk)
              (try clear hi)
              (try clear ho0)
              obtain ⟨Ao32, co32, eo32⟩ := Kd.R_slice HO536.out
              (first | subst eo32 | (injection eo32 with f1_ f2_ f3_; have f4_ := f1_.symm; have f5_ := f3_.symm; clear f1_ f2_ f3_; subst f4_; subst f5_))
              refine hK.out _ _ ⟨BK503.out, BK437.out⟩ (fun hHeld => ?_)
              clear hK K
              refine norm_ (a' := ?_) ?_ ?_
              rotate_left
              · show Act.put _ (some 48) _ = _
                simp only [Act.put, List.setIfInBounds_toArray, List.set_cons_zero, List.set_cons_succ, i64_w, i32_w, u8_w_]
                rfl
              refine one_ (i := 3) (N := some 49) #[true, true, true, true, false] rfl rfl (by kernel_rfl) (by decide) (fun K hK => ?_)
              refine goes_ Tryd.func22 (by kernel_rfl) rfl #[.agg #[.int .i8 t472, .int .i8 t473, .int .i8 t474, .int .i8 t475, .int .i8 t476, .int .i8 t477, .int .i8 t478, .int .i8 t479, .int .i8 t480, .int .i8 t481, .int .i8 t482, .int .i8 t483, .int .i8 t484, .int .i8 t485, .int .i8 t486, .int .i8 t487, .int .i8 t488, .int .i8 t489, .int .i8 t490, .int .i8 t491, .int .i8 t492, .int .i8 t493, .int .i8 t494, .int .i8 t495, .int .i8 t496, .int .i8 t497, .int .i8 t498, .int .i8 t499, .slice Ao22 t500.length co22], .agg #[.int .i8 t506, .int .i8 t507, .int .i8 t508, .int .i8 t509, .int .i8 t510, .int .i8 t511, .int .i8 t512, .int .i8 t513, .int .i8 t514, .int .i8 t515, .int .i8 t516, .int .i8 t517, .int .i8 t518, .int .i8 t519, .int .i8 t520, .int .i8 t521, .int .i8 t522, .int .i8 t523, .int .i8 t524, .int .i8 t525, .int .i8 t526, .int .i8 t527, .int .i8 t528, .int .i8 t529, .int .i8 t530, .int .i8 t531, .int .i8 t532, .int .i8 t533, .slice Ao32 t534.length co32]] (by rfl) rfl rfl (by (try simp only [List.map_toArray, List.map_cons, List.map_nil]); first | done | rfl | (simp only [List.length_drop, List.length_take]; rfl)) ?_
              with_reducible refine (laws_eqFace.calls kj13 t472 t473 t474 t475 t476 t477 t478 t479 t480 t481 t482 t483 t484 t485 t486 t487 t488 t489 t490 t491 t492 t493 t494 t495 t496 t497 t498 t499 _ _ t500 t506 t507 t508 t509 t510 t511 t512 t513 t514 t515 t516 t517 t518 t519 t520 t521 t522 t523 t524 t525 t526 t527 t528 t529 t530 t531 t532 t533 _ _ t534 true _ ?side1 ?side2 ?side3 ?side4 A28.out).mono ?_
              (case side1 => repeat (first | exact (Kd.R_reads' HO_504028.out).2.2 | (with_reducible refine Kd.C_alloc ?_ _) | (with_reducible refine Kd.C_drewN ?_ _) | (with_reducible refine Kd.C_drew ?_)))
              (case side2 => exact (Kd.R_reads' HO_504028.out).2.1)
              (case side3 => repeat (first | exact (Kd.R_reads' HO536.out).2.2 | (with_reducible refine Kd.C_alloc ?_ _) | (with_reducible refine Kd.C_drewN ?_ _) | (with_reducible refine Kd.C_drew ?_)))
              (case side4 => exact (Kd.R_reads' HO536.out).2.1)
              rintro e w33 ⟨rfl, hb⟩
              refine ⟨_, rfl, ?_⟩
              have n0_ := Aside0.mk (Kd.R_below (by (with_reducible repeat (first | apply Kd.R_alloc | apply Kd.R_drewN | apply Kd.R_drew)); exact HO_504028.out) hb)
              have n1_ := Aside0.mk (Kd.R_below (by (with_reducible repeat (first | apply Kd.R_alloc | apply Kd.R_drewN | apply Kd.R_drew)); exact HO536.out) hb)
              have n2_ := Aside0.mk (blk_below (g := gb437) (o := .cells #[.int .i8 a0_0, .int .i8 a0_1, .int .i8 a0_2, .int .i8 a0_3, .int .i8 a0_4, .int .i8 a0_5, .int .i8 a0_6, .int .i8 a0_7, .int .i8 a0_8, .int .i8 a0_9, .int .i8 a0_10, .int .i8 a0_11, .int .i8 a0_12, .int .i8 a0_13, .int .i8 a0_14, .int .i8 a0_15, .int .i8 a0_16, .int .i8 a0_17, .int .i8 a0_18, .int .i8 a0_19, .int .i8 a0_20, .int .i8 a0_21, .int .i8 a0_22, .int .i8 a0_23, .int .i8 a0_24, .int .i8 a0_25, .int .i8 a0_26, .int .i8 a0_27, .slice A0_28 l0_28.length c0_28] 26 (0, 0)) (by (with_reducible repeat (first | refine blk_drewN ?_ _ | refine blk_drew ?_ | refine blk_alloc ?_ _)); exact BK437.out) hb)
              have n3_ := Aside0.mk (blk_below (g := gb503) (o := .cells #[.int .i8 t472, .int .i8 t473, .int .i8 t474, .int .i8 t475, .int .i8 t476, .int .i8 t477, .int .i8 t478, .int .i8 t479, .int .i8 t480, .int .i8 t481, .int .i8 t482, .int .i8 t483, .int .i8 t484, .int .i8 t485, .int .i8 t486, .int .i8 t487, .int .i8 t488, .int .i8 t489, .int .i8 t490, .int .i8 t491, .int .i8 t492, .int .i8 t493, .int .i8 t494, .int .i8 t495, .int .i8 t496, .int .i8 t497, .int .i8 t498, .int .i8 t499, .slice Ao22 t500.length co22] 32 (0, 0)) (by (with_reducible repeat (first | refine blk_drewN ?_ _ | refine blk_drew ?_ | refine blk_alloc ?_ _)); exact BK503.out) hb)
              have n4_ := Aside0.mk (below_step (by repeat (first | (with_reducible first | exact HB.out | apply below_alloc | apply pw_below_drewN | apply below_drew1 | refine below_set ?_ GE437.out | refine below_set ?_ GE503.out) | exact HB.out)) hb)
              clear HO_504028
              clear HO536
              clear BK437
              clear BK503
              clear HB
              have HO_504028 := n0_
              have HO536 := n1_
              have BK437 := n2_
              have BK503 := n3_
              have HB := n4_
              clear n0_ n1_ n2_ n3_ n4_
              (try clear hb)
              (try clear hb2)
              (try clear hk)
              (try clear hi)
              refine hK.out _ _ ⟨BK503.out, BK437.out⟩ (fun hHeld => ?_)
              clear hK K
              refine norm_ (a' := ?_) ?_ ?_
              rotate_left
              · show Act.put _ (some 49) _ = _
                simp only [Act.put, List.setIfInBounds_toArray, List.set_cons_zero, List.set_cons_succ, i64_w, i32_w, u8_w_]
                rfl
              refine pure_ (i := 4) (N := some 50) (v := ?_) (a' := ?_) #[true, true, true, true, true] rfl rfl (by kernel_rfl) (fun _ _ _ h => h) (Or.inl ⟨by rfl, ?_⟩) ?_ ?_
              rotate_left
              · intro w'
                go_simp
                with_reducible rfl
              rotate_left
              · simp only [Act.put, List.setIfInBounds_toArray, List.set_cons_zero, List.set_cons_succ, i64_w, i32_w, u8_w_]
                rfl
              refine done_ (by kernel_rfl) ?_
              try go_wp2
              go_ret
              exact ⟨by first | rfl | (simp [errW_none, errW_some] <;> rfl) | (simp [*, errW_none, errW_some] <;> rfl), by repeat (first | (with_reducible first | exact HB.out | apply below_alloc | apply pw_below_drewN | apply below_drew1 | refine below_set ?_ GE437.out | refine below_set ?_ GE503.out) | exact HB.out)⟩
            · replace c29 := Bool.eq_false_iff.mpr c29
              subst c29
              have H1 : (some false) = some r := by rw [if_neg (show ¬ (false = true) by decide)] at H; exact H
              clear H
              have H := H1
              clear H1
              obtain rfl := Option.some.inj H
              try go_wp2
              have n0_ := Aside0.mk (Kd.R_drew HO_504028.out)
              have n1_ := Aside0.mk (blk_drew BK437.out)
              have n2_ := Aside0.mk (blk_drew BK503.out)
              have n3_ := Aside0.mk (below_drew1 HB.out)
              clear HO_504028
              clear BK437
              clear BK503
              clear HB
              have HO_504028 := n0_
              have BK437 := n1_
              have BK503 := n2_
              have HB := n3_
              clear n0_ n1_ n2_ n3_
              refine start_ (n := 5) (S := fun w' => w'.heap[gb503]? = some (.cells #[.int .i8 t472, .int .i8 t473, .int .i8 t474, .int .i8 t475, .int .i8 t476, .int .i8 t477, .int .i8 t478, .int .i8 t479, .int .i8 t480, .int .i8 t481, .int .i8 t482, .int .i8 t483, .int .i8 t484, .int .i8 t485, .int .i8 t486, .int .i8 t487, .int .i8 t488, .int .i8 t489, .int .i8 t490, .int .i8 t491, .int .i8 t492, .int .i8 t493, .int .i8 t494, .int .i8 t495, .int .i8 t496, .int .i8 t497, .int .i8 t498, .int .i8 t499, .slice Ao22 t500.length co22] 32 (0, 0)) ∧ w'.heap[gb437]? = some (.cells #[.int .i8 a0_0, .int .i8 a0_1, .int .i8 a0_2, .int .i8 a0_3, .int .i8 a0_4, .int .i8 a0_5, .int .i8 a0_6, .int .i8 a0_7, .int .i8 a0_8, .int .i8 a0_9, .int .i8 a0_10, .int .i8 a0_11, .int .i8 a0_12, .int .i8 a0_13, .int .i8 a0_14, .int .i8 a0_15, .int .i8 a0_16, .int .i8 a0_17, .int .i8 a0_18, .int .i8 a0_19, .int .i8 a0_20, .int .i8 a0_21, .int .i8 a0_22, .int .i8 a0_23, .int .i8 a0_24, .int .i8 a0_25, .int .i8 a0_26, .int .i8 a0_27, .slice A0_28 l0_28.length c0_28] 26 (0, 0))) (ds := []) #[false, false, false, false, false] (by kernel_rfl) rfl rfl ⟨BK503.out, BK437.out⟩ (fun hHeld => ?_)
              generalize wc.drew = w34 at HO_504028 BK437 BK503 HB hHeld ⊢
              refine take_ (i := 0) (N := some 46) (v := ?_) (a' := ?_) #[true, false, false, false, false] rfl rfl (by kernel_rfl) (fun _ _ _ h => h) (Or.inl ⟨by rfl, ?_⟩) hHeld ?_ ?_
              rotate_left
              · rintro w' ⟨s0, s1⟩
                refine exec_load_partx_ 32 (.tmp 10) _ 0 [] [.int .i8 t472, .int .i8 t473, .int .i8 t474, .int .i8 t475, .int .i8 t476, .int .i8 t477, .int .i8 t478, .int .i8 t479, .int .i8 t480, .int .i8 t481, .int .i8 t482, .int .i8 t483, .int .i8 t484, .int .i8 t485, .int .i8 t486, .int .i8 t487, .int .i8 t488, .int .i8 t489, .int .i8 t490, .int .i8 t491, .int .i8 t492, .int .i8 t493, .int .i8 t494, .int .i8 t495, .int .i8 t496, .int .i8 t497, .int .i8 t498, .int .i8 t499, .slice Ao22 t500.length co22] [] rfl s0 ?_ ?_ Tryd.underlying32 rfl (by exact (show (Tryd.prog.info? 32).map (·.size) = some 29 by kernel_rfl))
                · rfl
                · rfl
              rotate_left
              · simp only [Act.put, List.setIfInBounds_toArray, List.set_cons_zero, List.set_cons_succ, i64_w, i32_w, u8_w_]
                rfl
              refine take_ (i := 1) (N := some 47) (v := ?_) (a' := ?_) #[true, true, false, false, false] rfl rfl (by kernel_rfl) (fun _ _ _ h => h) (Or.inl ⟨by rfl, ?_⟩) hHeld ?_ ?_
              rotate_left
              · rintro w' ⟨s0, s1⟩
                refine exec_load_partx_ 26 (.tmp 3) _ 0 [] [.int .i8 a0_0, .int .i8 a0_1, .int .i8 a0_2, .int .i8 a0_3, .int .i8 a0_4, .int .i8 a0_5, .int .i8 a0_6, .int .i8 a0_7, .int .i8 a0_8, .int .i8 a0_9, .int .i8 a0_10, .int .i8 a0_11, .int .i8 a0_12, .int .i8 a0_13, .int .i8 a0_14, .int .i8 a0_15, .int .i8 a0_16, .int .i8 a0_17, .int .i8 a0_18, .int .i8 a0_19, .int .i8 a0_20, .int .i8 a0_21, .int .i8 a0_22, .int .i8 a0_23, .int .i8 a0_24, .int .i8 a0_25, .int .i8 a0_26, .int .i8 a0_27, .slice A0_28 l0_28.length c0_28] [] rfl s1 ?_ ?_ Tryd.underlying26 rfl (by exact (show (Tryd.prog.info? 26).map (·.size) = some 29 by kernel_rfl))
                · rfl
                · rfl
              rotate_left
              · simp only [Act.put, List.setIfInBounds_toArray, List.set_cons_zero, List.set_cons_succ, i64_w, i32_w, u8_w_]
                rfl
              refine one_ (i := 2) (N := some 48) #[true, true, true, false, false] rfl rfl (by kernel_rfl) (by decide) (fun K hK => ?_)
              refine goes_ Tryd.func20 (by kernel_rfl) rfl #[.agg #[.int .i8 a0_0, .int .i8 a0_1, .int .i8 a0_2, .int .i8 a0_3, .int .i8 a0_4, .int .i8 a0_5, .int .i8 a0_6, .int .i8 a0_7, .int .i8 a0_8, .int .i8 a0_9, .int .i8 a0_10, .int .i8 a0_11, .int .i8 a0_12, .int .i8 a0_13, .int .i8 a0_14, .int .i8 a0_15, .int .i8 a0_16, .int .i8 a0_17, .int .i8 a0_18, .int .i8 a0_19, .int .i8 a0_20, .int .i8 a0_21, .int .i8 a0_22, .int .i8 a0_23, .int .i8 a0_24, .int .i8 a0_25, .int .i8 a0_26, .int .i8 a0_27, .slice A0_28 l0_28.length c0_28]] (by rfl) rfl rfl (by (try simp only [List.map_toArray, List.map_cons, List.map_nil]); first | done | rfl | (simp only [List.length_drop, List.length_take]; rfl)) ?_
              with_reducible refine (laws_toFace.calls a0_0 a0_1 a0_2 a0_3 a0_4 a0_5 a0_6 a0_7 a0_8 a0_9 a0_10 a0_11 a0_12 a0_13 a0_14 a0_15 a0_16 a0_17 a0_18 a0_19 a0_20 a0_21 a0_22 a0_23 a0_24 a0_25 a0_26 a0_27 _ _ l0_28 t506 t507 t508 t509 t510 t511 t512 t513 t514 t515 t516 t517 t518 t519 t520 t521 t522 t523 t524 t525 t526 t527 t528 t529 t530 t531 t532 t533 t534 _ ?side1 ?side2 A27.out).mono ?_
              (case side1 => repeat (first | exact (Kd.C_below HR0_28.out HB.out) | (with_reducible refine Kd.C_alloc ?_ _) | (with_reducible refine Kd.C_drewN ?_ _) | (with_reducible refine Kd.C_drew ?_)))
              (case side2 => exact HC0_28.out)
              rintro e w35 ⟨v535, rfl, ho0, hb⟩
              refine ⟨_, rfl, ?_⟩
              have n0_ := Aside0.mk (Kd.R_elder' (by (with_reducible repeat (first | apply Kd.R_alloc | apply Kd.R_drewN | apply Kd.R_drew)); exact HO_504028.out) (Kd.R_base ho0) hb)
              have n1_ := Aside0.mk (Kd.R_lower (Kd.R_new' ho0 (Kd.R_lt (by (with_reducible repeat (first | apply Kd.R_alloc | apply Kd.R_drewN | apply Kd.R_drew)); exact HO_504028.out))) (below_size (by repeat (first | (with_reducible first | exact HB.out | apply below_alloc | apply pw_below_drewN | apply below_drew1 | refine below_set ?_ GE437.out | refine below_set ?_ GE503.out) | exact HB.out))))
              have n2_ := Aside0.mk (blk_below (g := gb437) (o := .cells #[.int .i8 a0_0, .int .i8 a0_1, .int .i8 a0_2, .int .i8 a0_3, .int .i8 a0_4, .int .i8 a0_5, .int .i8 a0_6, .int .i8 a0_7, .int .i8 a0_8, .int .i8 a0_9, .int .i8 a0_10, .int .i8 a0_11, .int .i8 a0_12, .int .i8 a0_13, .int .i8 a0_14, .int .i8 a0_15, .int .i8 a0_16, .int .i8 a0_17, .int .i8 a0_18, .int .i8 a0_19, .int .i8 a0_20, .int .i8 a0_21, .int .i8 a0_22, .int .i8 a0_23, .int .i8 a0_24, .int .i8 a0_25, .int .i8 a0_26, .int .i8 a0_27, .slice A0_28 l0_28.length c0_28] 26 (0, 0)) (by (with_reducible repeat (first | refine blk_drewN ?_ _ | refine blk_drew ?_ | refine blk_alloc ?_ _)); exact BK437.out) hb)
              have n3_ := Aside0.mk (blk_below (g := gb503) (o := .cells #[.int .i8 t472, .int .i8 t473, .int .i8 t474, .int .i8 t475, .int .i8 t476, .int .i8 t477, .int .i8 t478, .int .i8 t479, .int .i8 t480, .int .i8 t481, .int .i8 t482, .int .i8 t483, .int .i8 t484, .int .i8 t485, .int .i8 t486, .int .i8 t487, .int .i8 t488, .int .i8 t489, .int .i8 t490, .int .i8 t491, .int .i8 t492, .int .i8 t493, .int .i8 t494, .int .i8 t495, .int .i8 t496, .int .i8 t497, .int .i8 t498, .int .i8 t499, .slice Ao22 t500.length co22] 32 (0, 0)) (by (with_reducible repeat (first | refine blk_drewN ?_ _ | refine blk_drew ?_ | refine blk_alloc ?_ _)); exact BK503.out) hb)
              have n4_ := Aside0.mk (below_step (by repeat (first | (with_reducible first | exact HB.out | apply below_alloc | apply pw_below_drewN | apply below_drew1 | refine below_set ?_ GE437.out | refine below_set ?_ GE503.out) | exact HB.out)) hb)
              clear HO_504028
              clear BK437
              clear BK503
              clear HB
              have HO_504028 := n0_
              have HO536 := n1_
              have BK437 := n2_
              have BK503 := n3_
              have HB := n4_
              clear n0_ n1_ n2_ n3_ n4_
              (try clear hb)
              (try clear hb2)
              (try clear hk)
              (try clear hi)
              (try clear ho0)
              obtain ⟨Ao36, co36, eo36⟩ := Kd.R_slice HO536.out
              (first | subst eo36 | (injection eo36 with f1_ f2_ f3_; have f4_ := f1_.symm; have f5_ := f3_.symm; clear f1_ f2_ f3_; subst f4_; subst f5_))
              refine hK.out _ _ ⟨BK503.out, BK437.out⟩ (fun hHeld => ?_)
              clear hK K
              refine norm_ (a' := ?_) ?_ ?_
              rotate_left
              · show Act.put _ (some 48) _ = _
                simp only [Act.put, List.setIfInBounds_toArray, List.set_cons_zero, List.set_cons_succ, i64_w, i32_w, u8_w_]
                rfl
              refine one_ (i := 3) (N := some 49) #[true, true, true, true, false] rfl rfl (by kernel_rfl) (by decide) (fun K hK => ?_)
              refine goes_ Tryd.func22 (by kernel_rfl) rfl #[.agg #[.int .i8 t472, .int .i8 t473, .int .i8 t474, .int .i8 t475, .int .i8 t476, .int .i8 t477, .int .i8 t478, .int .i8 t479, .int .i8 t480, .int .i8 t481, .int .i8 t482, .int .i8 t483, .int .i8 t484, .int .i8 t485, .int .i8 t486, .int .i8 t487, .int .i8 t488, .int .i8 t489, .int .i8 t490, .int .i8 t491, .int .i8 t492, .int .i8 t493, .int .i8 t494, .int .i8 t495, .int .i8 t496, .int .i8 t497, .int .i8 t498, .int .i8 t499, .slice Ao22 t500.length co22], .agg #[.int .i8 t506, .int .i8 t507, .int .i8 t508, .int .i8 t509, .int .i8 t510, .int .i8 t511, .int .i8 t512, .int .i8 t513, .int .i8 t514, .int .i8 t515, .int .i8 t516, .int .i8 t517, .int .i8 t518, .int .i8 t519, .int .i8 t520, .int .i8 t521, .int .i8 t522, .int .i8 t523, .int .i8 t524, .int .i8 t525, .int .i8 t526, .int .i8 t527, .int .i8 t528, .int .i8 t529, .int .i8 t530, .int .i8 t531, .int .i8 t532, .int .i8 t533, .slice Ao36 t534.length co36]] (by rfl) rfl rfl (by (try simp only [List.map_toArray, List.map_cons, List.map_nil]); first | done | rfl | (simp only [List.length_drop, List.length_take]; rfl)) ?_
              with_reducible refine (laws_eqFace.calls kj13 t472 t473 t474 t475 t476 t477 t478 t479 t480 t481 t482 t483 t484 t485 t486 t487 t488 t489 t490 t491 t492 t493 t494 t495 t496 t497 t498 t499 _ _ t500 t506 t507 t508 t509 t510 t511 t512 t513 t514 t515 t516 t517 t518 t519 t520 t521 t522 t523 t524 t525 t526 t527 t528 t529 t530 t531 t532 t533 _ _ t534 false _ ?side1 ?side2 ?side3 ?side4 A28.out).mono ?_
              (case side1 => repeat (first | exact (Kd.R_reads' HO_504028.out).2.2 | (with_reducible refine Kd.C_alloc ?_ _) | (with_reducible refine Kd.C_drewN ?_ _) | (with_reducible refine Kd.C_drew ?_)))
              (case side2 => exact (Kd.R_reads' HO_504028.out).2.1)
              (case side3 => repeat (first | exact (Kd.R_reads' HO536.out).2.2 | (with_reducible refine Kd.C_alloc ?_ _) | (with_reducible refine Kd.C_drewN ?_ _) | (with_reducible refine Kd.C_drew ?_)))
              (case side4 => exact (Kd.R_reads' HO536.out).2.1)
              rintro e w37 ⟨rfl, hb⟩
              refine ⟨_, rfl, ?_⟩
              have n0_ := Aside0.mk (Kd.R_below (by (with_reducible repeat (first | apply Kd.R_alloc | apply Kd.R_drewN | apply Kd.R_drew)); exact HO_504028.out) hb)
              have n1_ := Aside0.mk (Kd.R_below (by (with_reducible repeat (first | apply Kd.R_alloc | apply Kd.R_drewN | apply Kd.R_drew)); exact HO536.out) hb)
              have n2_ := Aside0.mk (blk_below (g := gb437) (o := .cells #[.int .i8 a0_0, .int .i8 a0_1, .int .i8 a0_2, .int .i8 a0_3, .int .i8 a0_4, .int .i8 a0_5, .int .i8 a0_6, .int .i8 a0_7, .int .i8 a0_8, .int .i8 a0_9, .int .i8 a0_10, .int .i8 a0_11, .int .i8 a0_12, .int .i8 a0_13, .int .i8 a0_14, .int .i8 a0_15, .int .i8 a0_16, .int .i8 a0_17, .int .i8 a0_18, .int .i8 a0_19, .int .i8 a0_20, .int .i8 a0_21, .int .i8 a0_22, .int .i8 a0_23, .int .i8 a0_24, .int .i8 a0_25, .int .i8 a0_26, .int .i8 a0_27, .slice A0_28 l0_28.length c0_28] 26 (0, 0)) (by (with_reducible repeat (first | refine blk_drewN ?_ _ | refine blk_drew ?_ | refine blk_alloc ?_ _)); exact BK437.out) hb)
              have n3_ := Aside0.mk (blk_below (g := gb503) (o := .cells #[.int .i8 t472, .int .i8 t473, .int .i8 t474, .int .i8 t475, .int .i8 t476, .int .i8 t477, .int .i8 t478, .int .i8 t479, .int .i8 t480, .int .i8 t481, .int .i8 t482, .int .i8 t483, .int .i8 t484, .int .i8 t485, .int .i8 t486, .int .i8 t487, .int .i8 t488, .int .i8 t489, .int .i8 t490, .int .i8 t491, .int .i8 t492, .int .i8 t493, .int .i8 t494, .int .i8 t495, .int .i8 t496, .int .i8 t497, .int .i8 t498, .int .i8 t499, .slice Ao22 t500.length co22] 32 (0, 0)) (by (with_reducible repeat (first | refine blk_drewN ?_ _ | refine blk_drew ?_ | refine blk_alloc ?_ _)); exact BK503.out) hb)
              have n4_ := Aside0.mk (below_step (by repeat (first | (with_reducible first | exact HB.out | apply below_alloc | apply pw_below_drewN | apply below_drew1 | refine below_set ?_ GE437.out | refine below_set ?_ GE503.out) | exact HB.out)) hb)
              clear HO_504028
              clear HO536
              clear BK437
              clear BK503
              clear HB
              have HO_504028 := n0_
              have HO536 := n1_
              have BK437 := n2_
              have BK503 := n3_
              have HB := n4_
              clear n0_ n1_ n2_ n3_ n4_
              (try clear hb)
              (try clear hb2)
              (try clear hk)
              (try clear hi)
              refine hK.out _ _ ⟨BK503.out, BK437.out⟩ (fun hHeld => ?_)
              clear hK K
              refine norm_ (a' := ?_) ?_ ?_
              rotate_left
              · show Act.put _ (some 49) _ = _
                simp only [Act.put, List.setIfInBounds_toArray, List.set_cons_zero, List.set_cons_succ, i64_w, i32_w, u8_w_]
                rfl
              refine pure_ (i := 4) (N := some 50) (v := ?_) (a' := ?_) #[true, true, true, true, true] rfl rfl (by kernel_rfl) (fun _ _ _ h => h) (Or.inl ⟨by rfl, ?_⟩) ?_ ?_
              rotate_left
              · intro w'
                go_simp
                with_reducible rfl
              rotate_left
              · simp only [Act.put, List.setIfInBounds_toArray, List.set_cons_zero, List.set_cons_succ, i64_w, i32_w, u8_w_]
                rfl
              refine done_ (by kernel_rfl) ?_
              try go_wp2
              go_ret
              exact ⟨by first | rfl | (simp [errW_none, errW_some] <;> rfl) | (simp [*, errW_none, errW_some] <;> rfl), by repeat (first | (with_reducible first | exact HB.out | apply below_alloc | apply pw_below_drewN | apply below_drew1 | refine below_set ?_ GE437.out | refine below_set ?_ GE503.out) | exact HB.out)⟩

end Go.Proofs.YticjkfacdmmopaaDoor.Q


namespace Go.Proofs.YticjkfacdmmopaaDoor.Pure
open Go.RowKit Go.Proofs.YticjkfacdmmopaaDoor.Ext Go.Proofs.YticjkfacdmmopaaDoor.Q Go.Proofs.YticjkfacdmmopaaDoor.Txt Go.Proofs.YticjkfacdmmopaaDoor.Face Go.Proofs.YticjkfacdmmopaaDoorW.PrintWords Go.Proofs.YticjkfacdmmopaaDoorW.PrintLast Go.Proofs.YticjkfacdmmopaaDoorW.PrintMore
set_option linter.unusedVariables false
set_option linter.unusedSimpArgs false
set_option maxRecDepth 100000
theorem room_eq (n : Int) : spec_l01Room.f n = some (inB n 0 4000) := by
  unfold spec_l01Room.f
  rw [in_eq]
  rfl
theorem asked_wide {L : List Int} {P : List Pr} (hl : L.length = 28) (hr : rngB L P = true) (s : ByteArray) (hs : s.size ≤ 1048576) (n : Int) {k : Nat} (hk : 1048577 < k) : spec_l01Asked.f k (rd L 0) (rd L 1) (rd L 2) (rd L 3) (rd L 4) (rd L 5) (rd L 6) (rd L 7) (rd L 8) (rd L 9) (rd L 10) (rd L 11) (rd L 12) (rd L 13) (rd L 14) (rd L 15) (rd L 16) (rd L 17) (rd L 18) (rd L 19) (rd L 20) (rd L 21) (rd L 22) (rd L 23) (rd L 24) (rd L 25) (rd L 26) (rd L 27) P s (inB n 0 4000) = some (wideC L P s n) := by
  rw [asked_eq hl hr s hs _ hk]
  rfl
theorem wideC_zero {L : List Int} {P : List Pr} {s : ByteArray} {n : Int} (h : wideC L P s n = 0) : faceB L P = true ∧ txt s.data.toList = true ∧ 0 ≤ n ∧ n ≤ 4000 := by
  unfold wideC at h
  split at h
  · rename_i h1
    rw [Bool.and_eq_true] at h1
    split at h
    · rename_i h2
      exact ⟨h1.1, h1.2, inB_iff.1 h2⟩
    · omega
  · omega
theorem half_eq {x : Int} (h0 : 0 ≤ x) (h1 : x ≤ 100000) : wrap64 (Int.tdiv x 2) = Int.tdiv x 2 := by
  rw [Int.tdiv_eq_ediv_of_nonneg h0]
  exact w64 (by omega) (by omega)
/-- A line that has room. -/
theorem line_room {L : List Int} {P : List Pr} (F : FaceOk L P) {s : ByteArray} (h : txt s.data.toList = true) : -3600 ≤ lineOf L P s.data.toList ∧ lineOf L P s.data.toList ≤ 3600 := by
  have h1 := line_in F.len F.shape s.data.toList (txt_ok h)
  have h2 := txt_size h
  have h3 : s.data.toList.length = s.size := data_length s
  omega
theorem impl_CentreLine_eq {L : List Int} {P : List Pr} (hl : L.length = 28) (hr : rngB L P = true) (s : ByteArray) (n : Int) {k : Nat} (hk : 140 < k) : impl_CentreLine.f k (rd L 0) (rd L 1) (rd L 2) (rd L 3) (rd L 4) (rd L 5) (rd L 6) (rd L 7) (rd L 8) (rd L 9) (rd L 10) (rd L 11) (rd L 12) (rd L 13) (rd L 14) (rd L 15) (rd L 16) (rd L 17) (rd L 18) (rd L 19) (rd L 20) (rd L 21) (rd L 22) (rd L 23) (rd L 24) (rd L 25) (rd L 26) (rd L 27) P s n = some (centreLineC L P s n) := by
  unfold impl_CentreLine.f centreLineC
  rw [wideCode_eq hl hr s n (by omega), Option.bind_some]
  by_cases hz : wideC L P s n = 0
  · obtain ⟨hf, ht, h0, h1⟩ := wideC_zero hz
    have F := faceOk hl hr hf
    have hb := line_room F ht
    rw [if_pos hz, if_pos hz, fwide_eq F s (txt_size ht) (txt_ok ht) hk, Option.bind_some, w64 (x := n - lineOf L P s.data.toList) (by omega) (by omega)]
    by_cases h : lineOf L P s.data.toList > n
    · rw [if_pos (by omega), if_pos h]
    · rw [if_neg (by omega), if_neg h, half_eq (by omega) (by omega)]
  · rw [if_neg hz, if_neg hz]
theorem spec_CentreLine_eq {L : List Int} {P : List Pr} (hl : L.length = 28) (hr : rngB L P = true) (s : ByteArray) (hs : s.size ≤ 1048576) (n : Int) {k : Nat} (hk : 1048577 < k) : spec_CentreLine.f k (rd L 0) (rd L 1) (rd L 2) (rd L 3) (rd L 4) (rd L 5) (rd L 6) (rd L 7) (rd L 8) (rd L 9) (rd L 10) (rd L 11) (rd L 12) (rd L 13) (rd L 14) (rd L 15) (rd L 16) (rd L 17) (rd L 18) (rd L 19) (rd L 20) (rd L 21) (rd L 22) (rd L 23) (rd L 24) (rd L 25) (rd L 26) (rd L 27) P s n = some (centreLineC L P s n) := by
  unfold spec_CentreLine.f centreLineC
  rw [room_eq, Option.bind_some, asked_wide hl hr s hs n hk, Option.bind_some]
  by_cases hz : wideC L P s n = 0
  · obtain ⟨hf, ht, h0, h1⟩ := wideC_zero hz
    have F := faceOk hl hr hf
    have hb := line_room F ht
    rw [if_pos hz, if_pos hz, words_eq s (txt_size ht) (by omega), Option.bind_some, line_eq F s (txt_size ht) (txt_ok ht) (by omega), Option.bind_some, w64 (x := n - lineOf L P s.data.toList) (by omega) (by omega)]
    by_cases h : lineOf L P s.data.toList > n
    · rw [if_pos h, if_pos h]
    · rw [if_neg h, if_neg h, half_eq (by omega) (by omega)]
  · rw [if_neg hz, if_neg hz]
theorem centreLine_law (L : List Int) (hl : L.length = 28) (lp : List LP) (hlp : lp.length ≤ 9223372036854775807) (hr : rngB L (lp.map toP) = true) (s : ByteArray) (n : Int) (h0 : -9223372036854775808 ≤ n) (h1 : n ≤ 9223372036854775807) : ∃ k, laws_FnExactCentreLine.f k (rd L 0) (rd L 1) (rd L 2) (rd L 3) (rd L 4) (rd L 5) (rd L 6) (rd L 7) (rd L 8) (rd L 9) (rd L 10) (rd L 11) (rd L 12) (rd L 13) (rd L 14) (rd L 15) (rd L 16) (rd L 17) (rd L 18) (rd L 19) (rd L 20) (rd L 21) (rd L 22) (rd L 23) (rd L 24) (rd L 25) (rd L 26) (rd L 27) lp s n = some true := by
  obtain ⟨K, hK⟩ : ∃ K, K = 2000000 := ⟨_, rfl⟩
  refine ⟨K + 1, ?_⟩
  unfold laws_FnExactCentreLine.f
  by_cases h1 : s.size > 1048576
  · rw [if_pos (by omega)]
  rw [if_neg (by omega), szFace_eq L lp hlp, Option.bind_some]
  by_cases h2 : 1048576 < lp.length
  · rw [if_pos h2, if_pos (by omega)]
  rw [if_neg h2, if_neg (by omega)]
  simp only [toFace_eq L lp (by omega), Option.bind_some, spec_CentreLine_eq hl hr s (by omega : s.size ≤ 1048576) n (by omega : 1048577 < K + 1), impl_CentreLine_eq hl hr s n (by omega : 140 < K + 1), if_true, bne_self_eq_false, laws_FnExactCentreLine.j0, Bool.false_eq_true, if_false, eqFace_self L _ (size_le (by omega : lp.length ≤ 1048576)) (by omega : 1048577 < K)]
end Go.Proofs.YticjkfacdmmopaaDoor.Pure


namespace Go.Proofs.YticjkfacdmmopaaDoor.Pure
open Go.RowKit Go.Proofs.YticjkfacdmmopaaDoor.Ext Go.Proofs.YticjkfacdmmopaaDoor.Q Go.Proofs.YticjkfacdmmopaaDoor.Txt Go.Proofs.YticjkfacdmmopaaDoor.Face Go.Proofs.YticjkfacdmmopaaDoorW.PrintWords Go.Proofs.YticjkfacdmmopaaDoorW.PrintLast Go.Proofs.YticjkfacdmmopaaDoorW.PrintMore
set_option maxRecDepth 100000
theorem faceV_all (L : List Int) (hl : L.length = 28) (A : Option Addr) (n c : Nat) : faceV L A n c = #[.int .i8 (rd L 0), .int .i8 (rd L 1), .int .i8 (rd L 2), .int .i8 (rd L 3), .int .i8 (rd L 4), .int .i8 (rd L 5), .int .i8 (rd L 6), .int .i8 (rd L 7), .int .i8 (rd L 8), .int .i8 (rd L 9), .int .i8 (rd L 10), .int .i8 (rd L 11), .int .i8 (rd L 12), .int .i8 (rd L 13), .int .i8 (rd L 14), .int .i8 (rd L 15), .int .i8 (rd L 16), .int .i8 (rd L 17), .int .i8 (rd L 18), .int .i8 (rd L 19), .int .i8 (rd L 20), .int .i8 (rd L 21), .int .i8 (rd L 22), .int .i8 (rd L 23), .int .i8 (rd L 24), .int .i8 (rd L 25), .int .i8 (rd L 26), .int .i8 (rd L 27), .slice A n c] := by
  have e : faceV [rd L 0, rd L 1, rd L 2, rd L 3, rd L 4, rd L 5, rd L 6, rd L 7, rd L 8, rd L 9, rd L 10, rd L 11, rd L 12, rd L 13, rd L 14, rd L 15, rd L 16, rd L 17, rd L 18, rd L 19, rd L 20, rd L 21, rd L 22, rd L 23, rd L 24, rd L 25, rd L 26, rd L 27] A n c = #[.int .i8 (rd L 0), .int .i8 (rd L 1), .int .i8 (rd L 2), .int .i8 (rd L 3), .int .i8 (rd L 4), .int .i8 (rd L 5), .int .i8 (rd L 6), .int .i8 (rd L 7), .int .i8 (rd L 8), .int .i8 (rd L 9), .int .i8 (rd L 10), .int .i8 (rd L 11), .int .i8 (rd L 12), .int .i8 (rd L 13), .int .i8 (rd L 14), .int .i8 (rd L 15), .int .i8 (rd L 16), .int .i8 (rd L 17), .int .i8 (rd L 18), .int .i8 (rd L 19), .int .i8 (rd L 20), .int .i8 (rd L 21), .int .i8 (rd L 22), .int .i8 (rd L 23), .int .i8 (rd L 24), .int .i8 (rd L 25), .int .i8 (rd L 26), .int .i8 (rd L 27), .slice A n c] := rfl
  rwa [all28 L hl] at e
theorem rng_of {L : List Int} {P : List LP} (hb : ∀ y ∈ L, -128 ≤ y ∧ y ≤ 127) (hp : ∀ p ∈ P, (0 ≤ p.f0 ∧ p.f0 ≤ 255) ∧ (0 ≤ p.f1 ∧ p.f1 ≤ 255) ∧ (-128 ≤ p.f2 ∧ p.f2 ≤ 127)) : rngB L (P.map toP) = true := by
  unfold rngB
  rw [Bool.and_eq_true, List.all_eq_true, List.all_eq_true]
  refine ⟨fun y hy => inB_iff.2 (hb y hy), fun p hq => ?_⟩
  rw [List.mem_map] at hq
  obtain ⟨q, hq, rfl⟩ := hq
  have h := hp q hq
  rw [Bool.and_eq_true, Bool.and_eq_true]
  exact ⟨⟨inB_iff.2 h.1, inB_iff.2 h.2.1⟩, inB_iff.2 h.2.2⟩
theorem wf_i64 {y : Int} (h : (Lit.int .i64 y).wf = true) : -9223372036854775808 ≤ y ∧ y ≤ 9223372036854775807 := by simpa [Lit.wf, IntKind.min, IntKind.max, IntKind.signed, IntKind.bits] using h
end Go.Proofs.YticjkfacdmmopaaDoor.Pure


namespace Go.Proofs.YticjkfacdmmopaaDoor.Pure
open Go.RowKit Go.Proofs.YticjkfacdmmopaaDoor.Ext Go.Proofs.YticjkfacdmmopaaDoor.Q Go.Proofs.YticjkfacdmmopaaDoor.Txt Go.Proofs.YticjkfacdmmopaaDoor.Face Go.Proofs.YticjkfacdmmopaaDoorW.PrintWords Go.Proofs.YticjkfacdmmopaaDoorW.PrintLast Go.Proofs.YticjkfacdmmopaaDoorW.PrintMore
set_option maxRecDepth 100000
theorem centreLine_walk (L : List Int) (hl : L.length = 28) (hb : ∀ y ∈ L, -128 ≤ y ∧ y ≤ 127) (A : Option Addr) (c : Nat) (P : List LP) (hc : P.length ≤ c) (hm : c ≤ maxLen) (hp : ∀ p ∈ P, (0 ≤ p.f0 ∧ p.f0 ≤ 255) ∧ (0 ≤ p.f1 ∧ p.f1 ≤ 255) ∧ (-128 ≤ p.f2 ∧ p.f2 ≤ 127)) (s : ByteArray) (n : Int) (h0 : -9223372036854775808 ≤ n) (h1 : n ≤ 9223372036854775807) (w : World) (hr : Kd.C kLP w A P.length P) (hM : GlobM w) :
    Calls Tryd.prog 5 #[.agg (faceV L A P.length c), .string s, .int .i64 n] w fun e w' => e = .returned (.bool true) ∧ Below w.heap.size w w' := by
  obtain ⟨k, hk⟩ := centreLine_law L hl P (by unfold maxLen at hm; omega) (rng_of hb hp) s n h0 h1
  have h := laws_FnExactCentreLine.calls k (rd L 0) (rd L 1) (rd L 2) (rd L 3) (rd L 4) (rd L 5) (rd L 6) (rd L 7) (rd L 8) (rd L 9) (rd L 10) (rd L 11) (rd L 12) (rd L 13) (rd L 14) (rd L 15) (rd L 16) (rd L 17) (rd L 18) (rd L 19) (rd L 20) (rd L 21) (rd L 22) (rd L 23) (rd L 24) (rd L 25) (rd L 26) (rd L 27) A c P s n true w hr hc hM hk
  rw [faceV_all L hl A P.length c]
  exact h
end Go.Proofs.YticjkfacdmmopaaDoor.Pure


namespace Go.Proofs.YticjkfacdmmopaaDoor.Open
open Go.ChangeShapes Go.WideShapes Go.ChangeAt Go.RowKit Go.Deep Go.Proofs.YticjkfacdmmopaaDoor.Ext Go.Proofs.YticjkfacdmmopaaDoor.Face Go.Proofs.YticjkfacdmmopaaDoorW.PrintWords
set_option linter.unusedVariables false
set_option linter.unusedSimpArgs false
variable {H : Type} {enc : TypeId × Value → H} {P : Program} {w : World} {spare : Nat → Bool} {held : Bool} {t : TypeId}
instance : Inhabited LP := ⟨⟨0, 0, 0⟩⟩
/-- A row of pairs. -/
theorem open_pairs {t e : TypeId} {f0 f1 f2 : Field} {fuel : Nat} {cs : List Value} {x : DataW H × List MemPlace} (ht : P.underlying t = some (.slice e)) (he : P.underlying e = some (.struct #[f0, f1, f2])) (ce : P.cellsOf e = 3) (o0 : f0.offset = 0) (o1 : f1.offset = 1) (o2 : f2.offset = 2) (c0 : P.cellsOf f0.type = 1) (c1 : P.cellsOf f1.type = 1) (c2 : P.cellsOf f2.type = 1)
    (u0 : P.underlying f0.type = some (.int .u8)) (u1 : P.underlying f1.type = some (.int .u8)) (u2 : P.underlying f2.type = some (.int .i8))
    (h : DataW.trod enc P w 0 spare held fuel t cs = some x) :
    ∃ (A : Option Addr) (c : Nat) (ps : List LP), cs = [.slice A ps.length c] ∧ ps.length ≤ c ∧ c ≤ maxLen ∧ Kd.C kLP w A ps.length ps ∧ ∀ p ∈ ps, (0 ≤ p.f0 ∧ p.f0 ≤ 255) ∧ (0 ≤ p.f1 ∧ p.f1 ≤ 255) ∧ (-128 ≤ p.f2 ∧ p.f2 ≤ 127) := by
  rcases open_slice ht h with ⟨rfl, _⟩ | ⟨a, len, cap, m, n, D, Pl, rfl, hb, hl, hm, hmm, rfl, hx⟩
  · exact ⟨none, 0, [], rfl, Nat.le_refl _, Nat.zero_le _, ⟨rfl, by simp, fun hp => absurd hp (by simp)⟩, by simp⟩
  have hlm : len ≤ m := by rw [hmm]; split <;> omega
  have each : ∀ i, i < len → ∃ q : LP, (w.cell? (a.add (i * 3)) = some (.int .u8 q.f0) ∧ w.cell? (a.add (i * 3 + 1)) = some (.int .u8 q.f1) ∧ w.cell? (a.add (i * 3 + 2)) = some (.int .i8 q.f2)) ∧ (0 ≤ q.f0 ∧ q.f0 ≤ 255) ∧ (0 ≤ q.f1 ∧ q.f1 ≤ 255) ∧ (-128 ≤ q.f2 ∧ q.f2 ≤ 127) := by
    intro i hi
    obtain ⟨cs', h1, h2⟩ := hx i (by omega)
    rw [ce] at h1
    obtain ⟨_, hlen, hcell⟩ := World.cells?_some h1
    obtain ⟨xs, k, hk, hxy, _, hxl, hf⟩ := DataW.trod_struct he h2
    match xs, hxl, cs', hlen with
    | [y0, y1, y2], _, [v0, v1, v2], _ =>
      have g0 := hf 0 f0 rfl
      have g1 := hf 1 f1 rfl
      have g2 := hf 2 f2 rfl
      simp [o0, o1, o2, c0, c1, c2] at g0 g1 g2
      obtain ⟨z0, q0, _, w0⟩ := DataW.trod_int u0 g0
      obtain ⟨z1, q1, _, w1⟩ := DataW.trod_int u1 g1
      obtain ⟨z2, q2, _, w2⟩ := DataW.trod_int u2 g2
      obtain rfl : v0 = .int .u8 z0 := by simpa using q0
      obtain rfl : v1 = .int .u8 z1 := by simpa using q1
      obtain rfl : v2 = .int .i8 z2 := by simpa using q2
      have e0 := hcell 0 (by omega)
      have e1 := hcell 1 (by omega)
      have e2 := hcell 2 (by omega)
      rw [Deep.add_add] at e0 e1 e2
      exact ⟨⟨z0, z1, z2⟩, ⟨by simpa using e0, by simpa using e1, by simpa using e2⟩, wf_u8 w0, wf_u8 w1, wf_i8 w2⟩
  obtain ⟨q, hq⟩ := choose_lt each
  refine ⟨some a, cap, (List.range len).map q, by simp, by simpa using hl, hm, ⟨by simp, by simp; unfold maxLen at hm; omega, fun hp => ⟨a, rfl, fun j p hj => ?_⟩⟩, ?_⟩
  · obtain ⟨hlt, rfl⟩ := List.getElem?_eq_some_iff.1 hj
    have hjl : j < len := by simpa using hlt
    obtain ⟨⟨h0, h1, h2⟩, _⟩ := hq j hjl
    refine ⟨[.int .u8 (q j).f0, .int .u8 (q j).f1, .int .i8 (q j).f2], rfl, by simpa using kLP_mk w (q j), fun i u hi => ?_⟩
    match i, hi with
    | 0, hi => simp at hi; subst hi; exact h0
    | 1, hi => simp at hi; subst hi; exact h1
    | 2, hi => simp at hi; subst hi; exact h2
  · intro p hp
    rw [List.mem_map] at hp
    obtain ⟨j, hj, rfl⟩ := hp
    exact (hq j (by simpa using hj)).2
/-- A face. -/
theorem open_face {r : Reach} {b0 : Nat} {f0 f1 f2 f3 : Field} {g0 g1 g2 : Field} {e ep : TypeId} {v : Value} {d : DataW H} {p : List MemPlace} (ht : P.underlying t = some (.struct #[f0, f1, f2, f3])) (h0 : P.underlying f0.type = some (.array 26 e)) (he : P.underlying e = some (.int .i8))
    (hc : P.cellsOf e = 1) (hn : P.cellsOf f0.type = 26) (h1 : P.underlying f1.type = some (.int .i8)) (h2 : P.underlying f2.type = some (.int .i8)) (h3 : P.underlying f3.type = some (.slice ep)) (o0 : f0.offset = 0) (o1 : f1.offset = 26) (o2 : f2.offset = 27) (o3 : f3.offset = 28)
    (c1 : P.cellsOf f1.type = 1) (c2 : P.cellsOf f2.type = 1) (c3 : P.cellsOf f3.type = 1) (hC : P.cellsOf t = 29)
    (hep : P.underlying ep = some (.struct #[g0, g1, g2])) (ce : P.cellsOf ep = 3) (p0 : g0.offset = 0) (p1 : g1.offset = 1) (p2 : g2.offset = 2) (d0 : P.cellsOf g0.type = 1) (d1 : P.cellsOf g1.type = 1) (d2 : P.cellsOf g2.type = 1)
    (u0 : P.underlying g0.type = some (.int .u8)) (u1 : P.underlying g1.type = some (.int .u8)) (u2 : P.underlying g2.type = some (.int .i8))
    (hv : Value.okWide P w r b0 t v) (h : DataW.Trod enc P w 0 spare held t v d p) :
    ∃ (l : List Int) (A : Option Addr) (c : Nat) (ps : List LP), v = .agg (faceV l A ps.length c) ∧ l.length = 28 ∧ (∀ y ∈ l, -128 ≤ y ∧ y ≤ 127) ∧ ps.length ≤ c ∧ c ≤ maxLen ∧ Kd.C kLP w A ps.length ps ∧ ∀ p ∈ ps, (0 ≤ p.f0 ∧ p.f0 ≤ 255) ∧ (0 ≤ p.f1 ∧ p.f1 ≤ 255) ∧ (-128 ≤ p.f2 ∧ p.f2 ≤ 127) := by
  obtain ⟨cs, rfl, _⟩ := okWide_struct ht hv
  obtain ⟨fuel, hf⟩ := h
  obtain ⟨xs, m, _, _, hl, hxs, hi⟩ := DataW.trod_struct ht hf
  have hlen : xs.length = 4 := by simpa using hxs
  rw [hC] at hl
  have get : ∀ i, i < 4 → ∃ z, xs[i]? = some z := fun i hi' => ⟨xs[i]'(by omega), List.getElem?_eq_getElem (by omega)⟩
  have e0 := hi 0 f0 rfl
  have e1 := hi 1 f1 rfl
  have e2 := hi 2 f2 rfl
  have e3 := hi 3 f3 rfl
  obtain ⟨z0, hz0⟩ := get 0 (by omega)
  obtain ⟨z1, hz1⟩ := get 1 (by omega)
  obtain ⟨z2, hz2⟩ := get 2 (by omega)
  obtain ⟨z3, hz3⟩ := get 3 (by omega)
  rw [hz0, o0, hn, List.drop_zero] at e0
  rw [hz1, o1, c1] at e1
  rw [hz2, o2, c2] at e2
  rw [hz3, o3, c3] at e3
  obtain ⟨l, q1, q2, q3⟩ := arr_list h0 he hc hn e0
  obtain ⟨a, a1, _, a3⟩ := DataW.trod_int h1 e1
  obtain ⟨b, b1, _, b3⟩ := DataW.trod_int h2 e2
  obtain ⟨A, c, ps, s1, s2, s3, s4, s5⟩ := open_pairs h3 hep ce p0 p1 p2 d0 d1 d2 u0 u1 u2 e3
  refine ⟨l ++ [a, b], A, c, ps, ?_, by simp [q2], ?_, s2, s3, s4, s5⟩
  · have e : nums .i8 (l ++ [a, b]) ++ [.slice A ps.length c] = (Value.agg cs).cells.toList := by
      rw [nums_append, ← q1]
      have : nums .i8 [a, b] = [.int .i8 a] ++ [.int .i8 b] := rfl
      rw [this, ← a1, ← b1, ← s1]
      generalize (Value.agg cs).cells.toList = L at *
      apply List.ext_getElem?
      intro i
      simp only [List.getElem?_append, List.length_append, List.length_take, List.length_drop, List.getElem?_take, List.getElem?_drop]
      by_cases h1 : i < 26
      · rw [if_pos (by omega), if_pos (by omega), if_pos h1]
      · by_cases h2 : i = 26
        · subst h2
          rw [if_pos (by omega), if_neg (by omega), if_pos (by omega), if_pos (by omega)]
          congr 1; omega
        · by_cases h3 : i = 27
          · subst h3
            rw [if_pos (by omega), if_neg (by omega), if_neg (by omega), if_pos (by omega)]
            congr 1; omega
          · rw [if_neg (by omega)]
            by_cases h4 : i = 28
            · subst h4
              rw [if_pos (by omega)]
              congr 1; omega
            · rw [if_neg (by omega), List.getElem?_eq_none (by omega)]
    unfold faceV
    congr 1
    apply Array.toList_inj.1
    rw [Array.toList_push]
    show cs.toList = nums .i8 (l ++ [a, b]) ++ _
    rw [e]
    simp [Value.cells]
  · intro y hy
    rw [List.mem_append] at hy
    rcases hy with hy | hy
    · exact wf_i8 (q3 y hy)
    · simp at hy
      rcases hy with rfl | rfl
      · exact wf_i8 a3
      · exact wf_i8 b3
end Go.Proofs.YticjkfacdmmopaaDoor.Open

