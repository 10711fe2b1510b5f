/- Contracts and plain laws of functions of the given program; no conditions beside those in the theorems. -/
import Derived.Test.YticjkfacdmmopaaDoorC2FillLetter
import Derived.Test.YticjkfacdmmopaaDoorC6FillLetter
import Derived.Test.YticjkfacdmmopaaDoorC5FillLetter
import Derived.Test.YticjkfacdmmopaaDoorC4FillLetter
import Derived.Test.YticjkfacdmmopaaDoorC3FillLetter
import Derived.Test.YticjkfacdmmopaaDoorC0FillLetter
import Derived.Deep.Slices
namespace Go.Proofs.YticjkfacdmmopaaDoor.Ext
end Go.Proofs.YticjkfacdmmopaaDoor.Ext
namespace Go.Proofs.YticjkfacdmmopaaDoor.Q
open Go.Proofs.YticjkfacdmmopaaDoor.Ext
open Go.RowKit Go.Proofs.YticjkfacdmmopaaDoorW.PrintWords Go.Proofs.YticjkfacdmmopaaDoorW.PrintLast Go.Proofs.YticjkfacdmmopaaDoorW.PrintMore
attribute [local go_sem] max2_int min2_int max_two min_two max_three min_three max_four min_four
set_option linter.unusedVariables false
set_option linter.unusedSimpArgs false
def laws_FnExactFillLetter.j0 : Nat → Bool → Int → Int → Int → Int → Int → Int → Int → Int → Int → Int → Int → Int → Int → Int → Int → Int → Int → Int → Int → Int → Int → Int → Int → Int → Int → Int → Int → Int → List (S139) → Int → Int → Int → Int → Int → Int → Int → Int → Int → Int → Int → Int → Int → Int → Int → Int → Int → Int → Int → Int → Int → Int → Int → Int → Int → Int → Int → Int → List (S137) → Option (Bool)
  | 0, _, _, _, _, _, _, _, _, _, _, _, _, _, _, _, _, _, _, _, _, _, _, _, _, _, _, _, _, _, _, _, _, _, _, _, _, _, _, _, _, _, _, _, _, _, _, _, _, _, _, _, _, _, _, _, _, _, _, _ => none
  | k + 1, x56, x1108000, x1108001, x1108002, x1108003, x1108004, x1108005, x1108006, x1108007, x1108008, x1108009, x1108010, x1108011, x1108012, x1108013, x1108014, x1108015, x1108016, x1108017, x1108018, x1108019, x1108020, x1108021, x1108022, x1108023, x1108024, x1108025, x1108026, x1108027, x1108028, x1174000, x1174001, x1174002, x1174003, x1174004, x1174005, x1174006, x1174007, x1174008, x1174009, x1174010, x1174011, x1174012, x1174013, x1174014, x1174015, x1174016, x1174017, x1174018, x1174019, x1174020, x1174021, x1174022, x1174023, x1174024, x1174025, x1174026, x1174027, x1174028 => if x56 = true then (some false) else ((laws_toFace.f x1108000 x1108001 x1108002 x1108003 x1108004 x1108005 x1108006 x1108007 x1108008 x1108009 x1108010 x1108011 x1108012 x1108013 x1108014 x1108015 x1108016 x1108017 x1108018 x1108019 x1108020 x1108021 x1108022 x1108023 x1108024 x1108025 x1108026 x1108027 x1108028).bind fun bt1176 => ((laws_eqFace.f x1174000 x1174001 x1174002 x1174003 x1174004 x1174005 x1174006 x1174007 x1174008 x1174009 x1174010 x1174011 x1174012 x1174013 x1174014 x1174015 x1174016 x1174017 x1174018 x1174019 x1174020 x1174021 x1174022 x1174023 x1174024 x1174025 x1174026 x1174027 x1174028 bt1176.1 bt1176.2.1 bt1176.2.2.1 bt1176.2.2.2.1 bt1176.2.2.2.2.1 bt1176.2.2.2.2.2.1 bt1176.2.2.2.2.2.2.1 bt1176.2.2.2.2.2.2.2.1 bt1176.2.2.2.2.2.2.2.2.1 bt1176.2.2.2.2.2.2.2.2.2.1 bt1176.2.2.2.2.2.2.2.2.2.2.1 bt1176.2.2.2.2.2.2.2.2.2.2.2.1 bt1176.2.2.2.2.2.2.2.2.2.2.2.2.1 bt1176.2.2.2.2.2.2.2.2.2.2.2.2.2.1 bt1176.2.2.2.2.2.2.2.2.2.2.2.2.2.2.1 bt1176.2.2.2.2.2.2.2.2.2.2.2.2.2.2.2.1 bt1176.2.2.2.2.2.2.2.2.2.2.2.2.2.2.2.2.1 bt1176.2.2.2.2.2.2.2.2.2.2.2.2.2.2.2.2.2.1 bt1176.2.2.2.2.2.2.2.2.2.2.2.2.2.2.2.2.2.2.1 bt1176.2.2.2.2.2.2.2.2.2.2.2.2.2.2.2.2.2.2.2.1 bt1176.2.2.2.2.2.2.2.2.2.2.2.2.2.2.2.2.2.2.2.2.1 bt1176.2.2.2.2.2.2.2.2.2.2.2.2.2.2.2.2.2.2.2.2.2.1 bt1176.2.2.2.2.2.2.2.2.2.2.2.2.2.2.2.2.2.2.2.2.2.2.1 bt1176.2.2.2.2.2.2.2.2.2.2.2.2.2.2.2.2.2.2.2.2.2.2.2.1 bt1176.2.2.2.2.2.2.2.2.2.2.2.2.2.2.2.2.2.2.2.2.2.2.2.2.1 bt1176.2.2.2.2.2.2.2.2.2.2.2.2.2.2.2.2.2.2.2.2.2.2.2.2.2.1 bt1176.2.2.2.2.2.2.2.2.2.2.2.2.2.2.2.2.2.2.2.2.2.2.2.2.2.2.1 bt1176.2.2.2.2.2.2.2.2.2.2.2.2.2.2.2.2.2.2.2.2.2.2.2.2.2.2.2.1 bt1176.2.2.2.2.2.2.2.2.2.2.2.2.2.2.2.2.2.2.2.2.2.2.2.2.2.2.2.2).bind fun t1207 => (if t1207 = true then (some true) else (some false))))
def laws_FnExactFillLetter.f (k : Nat) (a0_0 a0_1 a0_2 a0_3 a0_4 a0_5 a0_6 a0_7 a0_8 a0_9 a0_10 a0_11 a0_12 a0_13 a0_14 a0_15 a0_16 a0_17 a0_18 a0_19 a0_20 a0_21 a0_22 a0_23 a0_24 a0_25 a0_26 a0_27 : Int) (l0_28 : List (S139)) (a1 : ByteArray) (a2 : ByteArray) (a3 : Int) (a4 : Int) : Option (Bool) := if (a1.size : Int) > 1048576 then (some true) else (if (a2.size : Int) > 1048576 then (some true) else ((laws_szFace.f a0_0 a0_1 a0_2 a0_3 a0_4 a0_5 a0_6 a0_7 a0_8 a0_9 a0_10 a0_11 a0_12 a0_13 a0_14 a0_15 a0_16 a0_17 a0_18 a0_19 a0_20 a0_21 a0_22 a0_23 a0_24 a0_25 a0_26 a0_27 l0_28 1048576).bind fun t1108 => (if t1108 < 0 then (some true) else ((laws_toFace.f a0_0 a0_1 a0_2 a0_3 a0_4 a0_5 a0_6 a0_7 a0_8 a0_9 a0_10 a0_11 a0_12 a0_13 a0_14 a0_15 a0_16 a0_17 a0_18 a0_19 a0_20 a0_21 a0_22 a0_23 a0_24 a0_25 a0_26 a0_27 l0_28).bind fun bt1109 => ((spec_FillLetter.f k bt1109.1 bt1109.2.1 bt1109.2.2.1 bt1109.2.2.2.1 bt1109.2.2.2.2.1 bt1109.2.2.2.2.2.1 bt1109.2.2.2.2.2.2.1 bt1109.2.2.2.2.2.2.2.1 bt1109.2.2.2.2.2.2.2.2.1 bt1109.2.2.2.2.2.2.2.2.2.1 bt1109.2.2.2.2.2.2.2.2.2.2.1 bt1109.2.2.2.2.2.2.2.2.2.2.2.1 bt1109.2.2.2.2.2.2.2.2.2.2.2.2.1 bt1109.2.2.2.2.2.2.2.2.2.2.2.2.2.1 bt1109.2.2.2.2.2.2.2.2.2.2.2.2.2.2.1 bt1109.2.2.2.2.2.2.2.2.2.2.2.2.2.2.2.1 bt1109.2.2.2.2.2.2.2.2.2.2.2.2.2.2.2.2.1 bt1109.2.2.2.2.2.2.2.2.2.2.2.2.2.2.2.2.2.1 bt1109.2.2.2.2.2.2.2.2.2.2.2.2.2.2.2.2.2.2.1 bt1109.2.2.2.2.2.2.2.2.2.2.2.2.2.2.2.2.2.2.2.1 bt1109.2.2.2.2.2.2.2.2.2.2.2.2.2.2.2.2.2.2.2.2.1 bt1109.2.2.2.2.2.2.2.2.2.2.2.2.2.2.2.2.2.2.2.2.2.1 bt1109.2.2.2.2.2.2.2.2.2.2.2.2.2.2.2.2.2.2.2.2.2.2.1 bt1109.2.2.2.2.2.2.2.2.2.2.2.2.2.2.2.2.2.2.2.2.2.2.2.1 bt1109.2.2.2.2.2.2.2.2.2.2.2.2.2.2.2.2.2.2.2.2.2.2.2.2.1 bt1109.2.2.2.2.2.2.2.2.2.2.2.2.2.2.2.2.2.2.2.2.2.2.2.2.2.1 bt1109.2.2.2.2.2.2.2.2.2.2.2.2.2.2.2.2.2.2.2.2.2.2.2.2.2.2.1 bt1109.2.2.2.2.2.2.2.2.2.2.2.2.2.2.2.2.2.2.2.2.2.2.2.2.2.2.2.1 bt1109.2.2.2.2.2.2.2.2.2.2.2.2.2.2.2.2.2.2.2.2.2.2.2.2.2.2.2.2 a1 a2 a3 a4).bind fun bt1140 => ((laws_toFace.f a0_0 a0_1 a0_2 a0_3 a0_4 a0_5 a0_6 a0_7 a0_8 a0_9 a0_10 a0_11 a0_12 a0_13 a0_14 a0_15 a0_16 a0_17 a0_18 a0_19 a0_20 a0_21 a0_22 a0_23 a0_24 a0_25 a0_26 a0_27 l0_28).bind fun bt1142 => ((impl_FillLetter.f k bt1142.1 bt1142.2.1 bt1142.2.2.1 bt1142.2.2.2.1 bt1142.2.2.2.2.1 bt1142.2.2.2.2.2.1 bt1142.2.2.2.2.2.2.1 bt1142.2.2.2.2.2.2.2.1 bt1142.2.2.2.2.2.2.2.2.1 bt1142.2.2.2.2.2.2.2.2.2.1 bt1142.2.2.2.2.2.2.2.2.2.2.1 bt1142.2.2.2.2.2.2.2.2.2.2.2.1 bt1142.2.2.2.2.2.2.2.2.2.2.2.2.1 bt1142.2.2.2.2.2.2.2.2.2.2.2.2.2.1 bt1142.2.2.2.2.2.2.2.2.2.2.2.2.2.2.1 bt1142.2.2.2.2.2.2.2.2.2.2.2.2.2.2.2.1 bt1142.2.2.2.2.2.2.2.2.2.2.2.2.2.2.2.2.1 bt1142.2.2.2.2.2.2.2.2.2.2.2.2.2.2.2.2.2.1 bt1142.2.2.2.2.2.2.2.2.2.2.2.2.2.2.2.2.2.2.1 bt1142.2.2.2.2.2.2.2.2.2.2.2.2.2.2.2.2.2.2.2.1 bt1142.2.2.2.2.2.2.2.2.2.2.2.2.2.2.2.2.2.2.2.2.1 bt1142.2.2.2.2.2.2.2.2.2.2.2.2.2.2.2.2.2.2.2.2.2.1 bt1142.2.2.2.2.2.2.2.2.2.2.2.2.2.2.2.2.2.2.2.2.2.2.1 bt1142.2.2.2.2.2.2.2.2.2.2.2.2.2.2.2.2.2.2.2.2.2.2.2.1 bt1142.2.2.2.2.2.2.2.2.2.2.2.2.2.2.2.2.2.2.2.2.2.2.2.2.1 bt1142.2.2.2.2.2.2.2.2.2.2.2.2.2.2.2.2.2.2.2.2.2.2.2.2.2.1 bt1142.2.2.2.2.2.2.2.2.2.2.2.2.2.2.2.2.2.2.2.2.2.2.2.2.2.2.1 bt1142.2.2.2.2.2.2.2.2.2.2.2.2.2.2.2.2.2.2.2.2.2.2.2.2.2.2.2.1 bt1142.2.2.2.2.2.2.2.2.2.2.2.2.2.2.2.2.2.2.2.2.2.2.2.2.2.2.2.2 a1 a2 a3 a4).bind fun bt1174 => (if bt1174.1.toList = bt1140.1.toList then (laws_FnExactFillLetter.j0 k (bt1174.2 != bt1140.2) a0_0 a0_1 a0_2 a0_3 a0_4 a0_5 a0_6 a0_7 a0_8 a0_9 a0_10 a0_11 a0_12 a0_13 a0_14 a0_15 a0_16 a0_17 a0_18 a0_19 a0_20 a0_21 a0_22 a0_23 a0_24 a0_25 a0_26 a0_27 l0_28 bt1142.1 bt1142.2.1 bt1142.2.2.1 bt1142.2.2.2.1 bt1142.2.2.2.2.1 bt1142.2.2.2.2.2.1 bt1142.2.2.2.2.2.2.1 bt1142.2.2.2.2.2.2.2.1 bt1142.2.2.2.2.2.2.2.2.1 bt1142.2.2.2.2.2.2.2.2.2.1 bt1142.2.2.2.2.2.2.2.2.2.2.1 bt1142.2.2.2.2.2.2.2.2.2.2.2.1 bt1142.2.2.2.2.2.2.2.2.2.2.2.2.1 bt1142.2.2.2.2.2.2.2.2.2.2.2.2.2.1 bt1142.2.2.2.2.2.2.2.2.2.2.2.2.2.2.1 bt1142.2.2.2.2.2.2.2.2.2.2.2.2.2.2.2.1 bt1142.2.2.2.2.2.2.2.2.2.2.2.2.2.2.2.2.1 bt1142.2.2.2.2.2.2.2.2.2.2.2.2.2.2.2.2.2.1 bt1142.2.2.2.2.2.2.2.2.2.2.2.2.2.2.2.2.2.2.1 bt1142.2.2.2.2.2.2.2.2.2.2.2.2.2.2.2.2.2.2.2.1 bt1142.2.2.2.2.2.2.2.2.2.2.2.2.2.2.2.2.2.2.2.2.1 bt1142.2.2.2.2.2.2.2.2.2.2.2.2.2.2.2.2.2.2.2.2.2.1 bt1142.2.2.2.2.2.2.2.2.2.2.2.2.2.2.2.2.2.2.2.2.2.2.1 bt1142.2.2.2.2.2.2.2.2.2.2.2.2.2.2.2.2.2.2.2.2.2.2.2.1 bt1142.2.2.2.2.2.2.2.2.2.2.2.2.2.2.2.2.2.2.2.2.2.2.2.2.1 bt1142.2.2.2.2.2.2.2.2.2.2.2.2.2.2.2.2.2.2.2.2.2.2.2.2.2.1 bt1142.2.2.2.2.2.2.2.2.2.2.2.2.2.2.2.2.2.2.2.2.2.2.2.2.2.2.1 bt1142.2.2.2.2.2.2.2.2.2.2.2.2.2.2.2.2.2.2.2.2.2.2.2.2.2.2.2.1 bt1142.2.2.2.2.2.2.2.2.2.2.2.2.2.2.2.2.2.2.2.2.2.2.2.2.2.2.2.2) else (laws_FnExactFillLetter.j0 k true a0_0 a0_1 a0_2 a0_3 a0_4 a0_5 a0_6 a0_7 a0_8 a0_9 a0_10 a0_11 a0_12 a0_13 a0_14 a0_15 a0_16 a0_17 a0_18 a0_19 a0_20 a0_21 a0_22 a0_23 a0_24 a0_25 a0_26 a0_27 l0_28 bt1142.1 bt1142.2.1 bt1142.2.2.1 bt1142.2.2.2.1 bt1142.2.2.2.2.1 bt1142.2.2.2.2.2.1 bt1142.2.2.2.2.2.2.1 bt1142.2.2.2.2.2.2.2.1 bt1142.2.2.2.2.2.2.2.2.1 bt1142.2.2.2.2.2.2.2.2.2.1 bt1142.2.2.2.2.2.2.2.2.2.2.1 bt1142.2.2.2.2.2.2.2.2.2.2.2.1 bt1142.2.2.2.2.2.2.2.2.2.2.2.2.1 bt1142.2.2.2.2.2.2.2.2.2.2.2.2.2.1 bt1142.2.2.2.2.2.2.2.2.2.2.2.2.2.2.1 bt1142.2.2.2.2.2.2.2.2.2.2.2.2.2.2.2.1 bt1142.2.2.2.2.2.2.2.2.2.2.2.2.2.2.2.2.1 bt1142.2.2.2.2.2.2.2.2.2.2.2.2.2.2.2.2.2.1 bt1142.2.2.2.2.2.2.2.2.2.2.2.2.2.2.2.2.2.2.1 bt1142.2.2.2.2.2.2.2.2.2.2.2.2.2.2.2.2.2.2.2.1 bt1142.2.2.2.2.2.2.2.2.2.2.2.2.2.2.2.2.2.2.2.2.1 bt1142.2.2.2.2.2.2.2.2.2.2.2.2.2.2.2.2.2.2.2.2.2.1 bt1142.2.2.2.2.2.2.2.2.2.2.2.2.2.2.2.2.2.2.2.2.2.2.1 bt1142.2.2.2.2.2.2.2.2.2.2.2.2.2.2.2.2.2.2.2.2.2.2.2.1 bt1142.2.2.2.2.2.2.2.2.2.2.2.2.2.2.2.2.2.2.2.2.2.2.2.2.1 bt1142.2.2.2.2.2.2.2.2.2.2.2.2.2.2.2.2.2.2.2.2.2.2.2.2.2.1 bt1142.2.2.2.2.2.2.2.2.2.2.2.2.2.2.2.2.2.2.2.2.2.2.2.2.2.2.1 bt1142.2.2.2.2.2.2.2.2.2.2.2.2.2.2.2.2.2.2.2.2.2.2.2.2.2.2.2.1 bt1142.2.2.2.2.2.2.2.2.2.2.2.2.2.2.2.2.2.2.2.2.2.2.2.2.2.2.2.2)))))))))
theorem laws_FnExactFillLetter.mono_l : ∀ k, (∀ y0 y1 y2 y3 y4 y5 y6 y7 y8 y9 y10 y11 y12 y13 y14 y15 y16 y17 y18 y19 y20 y21 y22 y23 y24 y25 y26 y27 y28 y29 y30 y31 y32 y33 y34 y35 y36 y37 y38 y39 y40 y41 y42 y43 y44 y45 y46 y47 y48 y49 y50 y51 y52 y53 y54 y55 y56 y57 y58, LeO (laws_FnExactFillLetter.j0 k y0 y1 y2 y3 y4 y5 y6 y7 y8 y9 y10 y11 y12 y13 y14 y15 y16 y17 y18 y19 y20 y21 y22 y23 y24 y25 y26 y27 y28 y29 y30 y31 y32 y33 y34 y35 y36 y37 y38 y39 y40 y41 y42 y43 y44 y45 y46 y47 y48 y49 y50 y51 y52 y53 y54 y55 y56 y57 y58) (laws_FnExactFillLetter.j0 (k + 1) y0 y1 y2 y3 y4 y5 y6 y7 y8 y9 y10 y11 y12 y13 y14 y15 y16 y17 y18 y19 y20 y21 y22 y23 y24 y25 y26 y27 y28 y29 y30 y31 y32 y33 y34 y35 y36 y37 y38 y39 y40 y41 y42 y43 y44 y45 y46 y47 y48 y49 y50 y51 y52 y53 y54 y55 y56 y57 y58))
  | 0 => fun _ _ _ _ _ _ _ _ _ _ _ _ _ _ _ _ _ _ _ _ _ _ _ _ _ _ _ _ _ _ _ _ _ _ _ _ _ _ _ _ _ _ _ _ _ _ _ _ _ _ _ _ _ _ _ _ _ _ _ r h => by simp [laws_FnExactFillLetter.j0] at h
  | k + 1 => by
    have ih0 := laws_FnExactFillLetter.mono_l k
    · intro y0 y1 y2 y3 y4 y5 y6 y7 y8 y9 y10 y11 y12 y13 y14 y15 y16 y17 y18 y19 y20 y21 y22 y23 y24 y25 y26 y27 y28 y29 y30 y31 y32 y33 y34 y35 y36 y37 y38 y39 y40 y41 y42 y43 y44 y45 y46 y47 y48 y49 y50 y51 y52 y53 y54 y55 y56 y57 y58
      unfold laws_FnExactFillLetter.j0
      repeat' first
      | (with_reducible exact ih0 _ _ _ _ _ _ _ _ _ _ _ _ _ _ _ _ _ _ _ _ _ _ _ _ _ _ _ _ _ _ _ _ _ _ _ _ _ _ _ _ _ _ _ _ _ _ _ _ _ _ _ _ _ _ _ _ _ _ _)
      | (with_reducible exact impl_FillLetter.mono _ _ _ _ _ _ _ _ _ _ _ _ _ _ _ _ _ _ _ _ _ _ _ _ _ _ _ _ _ _ _ _ _ _)
      | (with_reducible exact spec_FillLetter.mono _ _ _ _ _ _ _ _ _ _ _ _ _ _ _ _ _ _ _ _ _ _ _ _ _ _ _ _ _ _ _ _ _ _)
      | (with_reducible exact LeO.refl _)
      | (with_reducible exact LeO.none _)
      | (with_reducible refine LeO.ite ?_ ?_)
      | (with_reducible refine LeO.bind ?_ (fun _ => ?_))
      | exact ih0 _ _ _ _ _ _ _ _ _ _ _ _ _ _ _ _ _ _ _ _ _ _ _ _ _ _ _ _ _ _ _ _ _ _ _ _ _ _ _ _ _ _ _ _ _ _ _ _ _ _ _ _ _ _ _ _ _ _ _
      | exact impl_FillLetter.mono _ _ _ _ _ _ _ _ _ _ _ _ _ _ _ _ _ _ _ _ _ _ _ _ _ _ _ _ _ _ _ _ _ _
      | exact spec_FillLetter.mono _ _ _ _ _ _ _ _ _ _ _ _ _ _ _ _ _ _ _ _ _ _ _ _ _ _ _ _ _ _ _ _ _ _
      | exact LeO.none _
      | refine LeO.ite ?_ ?_
      | refine LeO.bind ?_ (fun _ => ?_)
theorem laws_FnExactFillLetter.mono : ∀ a0 a1 a2 a3 a4 a5 a6 a7 a8 a9 a10 a11 a12 a13 a14 a15 a16 a17 a18 a19 a20 a21 a22 a23 a24 a25 a26 a27 a28 a29 a30 a31 a32 k, LeO (laws_FnExactFillLetter.f k a0 a1 a2 a3 a4 a5 a6 a7 a8 a9 a10 a11 a12 a13 a14 a15 a16 a17 a18 a19 a20 a21 a22 a23 a24 a25 a26 a27 a28 a29 a30 a31 a32) (laws_FnExactFillLetter.f (k + 1) a0 a1 a2 a3 a4 a5 a6 a7 a8 a9 a10 a11 a12 a13 a14 a15 a16 a17 a18 a19 a20 a21 a22 a23 a24 a25 a26 a27 a28 a29 a30 a31 a32) := by
  intro a0 a1 a2 a3 a4 a5 a6 a7 a8 a9 a10 a11 a12 a13 a14 a15 a16 a17 a18 a19 a20 a21 a22 a23 a24 a25 a26 a27 a28 a29 a30 a31 a32 k
  have ih0 := laws_FnExactFillLetter.mono_l k
  unfold laws_FnExactFillLetter.f
  repeat' first
      | (with_reducible exact ih0 _ _ _ _ _ _ _ _ _ _ _ _ _ _ _ _ _ _ _ _ _ _ _ _ _ _ _ _ _ _ _ _ _ _ _ _ _ _ _ _ _ _ _ _ _ _ _ _ _ _ _ _ _ _ _ _ _ _ _)
      | (with_reducible exact impl_FillLetter.mono _ _ _ _ _ _ _ _ _ _ _ _ _ _ _ _ _ _ _ _ _ _ _ _ _ _ _ _ _ _ _ _ _ _)
      | (with_reducible exact spec_FillLetter.mono _ _ _ _ _ _ _ _ _ _ _ _ _ _ _ _ _ _ _ _ _ _ _ _ _ _ _ _ _ _ _ _ _ _)
      | (with_reducible exact LeO.refl _)
      | (with_reducible exact LeO.none _)
      | (with_reducible refine LeO.ite ?_ ?_)
      | (with_reducible refine LeO.bind ?_ (fun _ => ?_))
      | exact ih0 _ _ _ _ _ _ _ _ _ _ _ _ _ _ _ _ _ _ _ _ _ _ _ _ _ _ _ _ _ _ _ _ _ _ _ _ _ _ _ _ _ _ _ _ _ _ _ _ _ _ _ _ _ _ _ _ _ _ _
      | exact impl_FillLetter.mono _ _ _ _ _ _ _ _ _ _ _ _ _ _ _ _ _ _ _ _ _ _ _ _ _ _ _ _ _ _ _ _ _ _
      | exact spec_FillLetter.mono _ _ _ _ _ _ _ _ _ _ _ _ _ _ _ _ _ _ _ _ _ _ _ _ _ _ _ _ _ _ _ _ _ _
      | exact LeO.none _
      | refine LeO.ite ?_ ?_
      | refine LeO.bind ?_ (fun _ => ?_)
set_option maxHeartbeats 8000000 in
set_option maxRecDepth 100000 in
theorem laws_FnExactFillLetter.calls (k : Nat) (a0_0 a0_1 a0_2 a0_3 a0_4 a0_5 a0_6 a0_7 a0_8 a0_9 a0_10 a0_11 a0_12 a0_13 a0_14 a0_15 a0_16 a0_17 a0_18 a0_19 a0_20 a0_21 a0_22 a0_23 a0_24 a0_25 a0_26 a0_27 : Int) (A0_28 : Option Addr) (c0_28 : Nat) (l0_28 : List (S139)) (a1 : ByteArray) (a2 : ByteArray) (a3 : Int) (a4 : Int) (r : Bool) (w : World) (hr0_28 : Kd.C k139 w A0_28 l0_28.length l0_28) (hc0_28 : l0_28.length ≤ c0_28) (hG : GlobM w) (h : laws_FnExactFillLetter.f k a0_0 a0_1 a0_2 a0_3 a0_4 a0_5 a0_6 a0_7 a0_8 a0_9 a0_10 a0_11 a0_12 a0_13 a0_14 a0_15 a0_16 a0_17 a0_18 a0_19 a0_20 a0_21 a0_22 a0_23 a0_24 a0_25 a0_26 a0_27 l0_28 a1 a2 a3 a4 = some r) :
    Calls Tryd.prog 9 #[.agg #[.int .i8 a0_0, .int .i8 a0_1, .int .i8 a0_2, .int .i8 a0_3, .int .i8 a0_4, .int .i8 a0_5, .int .i8 a0_6, .int .i8 a0_7, .int .i8 a0_8, .int .i8 a0_9, .int .i8 a0_10, .int .i8 a0_11, .int .i8 a0_12, .int .i8 a0_13, .int .i8 a0_14, .int .i8 a0_15, .int .i8 a0_16, .int .i8 a0_17, .int .i8 a0_18, .int .i8 a0_19, .int .i8 a0_20, .int .i8 a0_21, .int .i8 a0_22, .int .i8 a0_23, .int .i8 a0_24, .int .i8 a0_25, .int .i8 a0_26, .int .i8 a0_27, .slice A0_28 l0_28.length c0_28], .string a1, .string a2, .int .i64 a3, .int .i64 a4] w fun e w' => e = .returned (.bool r) ∧ Below w.heap.size w w' := by
  have HG := Aside0.mk hG
  clear hG
  have hu26 := Tryd.underlying26
  have hu32 := Tryd.underlying32
  have HR0_28 := Aside0.mk hr0_28
  have HC0_28 := Aside0.mk hc0_28
  clear hr0_28 hc0_28
  have HB := Aside0.mk (Below.refl w.heap.size w)
  have H : (if (a1.size : Int) > 1048576 then (some true) else (if (a2.size : Int) > 1048576 then (some true) else ((laws_szFace.f a0_0 a0_1 a0_2 a0_3 a0_4 a0_5 a0_6 a0_7 a0_8 a0_9 a0_10 a0_11 a0_12 a0_13 a0_14 a0_15 a0_16 a0_17 a0_18 a0_19 a0_20 a0_21 a0_22 a0_23 a0_24 a0_25 a0_26 a0_27 l0_28 1048576).bind fun t1108 => (if t1108 < 0 then (some true) else ((laws_toFace.f a0_0 a0_1 a0_2 a0_3 a0_4 a0_5 a0_6 a0_7 a0_8 a0_9 a0_10 a0_11 a0_12 a0_13 a0_14 a0_15 a0_16 a0_17 a0_18 a0_19 a0_20 a0_21 a0_22 a0_23 a0_24 a0_25 a0_26 a0_27 l0_28).bind fun bt1109 => ((spec_FillLetter.f k bt1109.1 bt1109.2.1 bt1109.2.2.1 bt1109.2.2.2.1 bt1109.2.2.2.2.1 bt1109.2.2.2.2.2.1 bt1109.2.2.2.2.2.2.1 bt1109.2.2.2.2.2.2.2.1 bt1109.2.2.2.2.2.2.2.2.1 bt1109.2.2.2.2.2.2.2.2.2.1 bt1109.2.2.2.2.2.2.2.2.2.2.1 bt1109.2.2.2.2.2.2.2.2.2.2.2.1 bt1109.2.2.2.2.2.2.2.2.2.2.2.2.1 bt1109.2.2.2.2.2.2.2.2.2.2.2.2.2.1 bt1109.2.2.2.2.2.2.2.2.2.2.2.2.2.2.1 bt1109.2.2.2.2.2.2.2.2.2.2.2.2.2.2.2.1 bt1109.2.2.2.2.2.2.2.2.2.2.2.2.2.2.2.2.1 bt1109.2.2.2.2.2.2.2.2.2.2.2.2.2.2.2.2.2.1 bt1109.2.2.2.2.2.2.2.2.2.2.2.2.2.2.2.2.2.2.1 bt1109.2.2.2.2.2.2.2.2.2.2.2.2.2.2.2.2.2.2.2.1 bt1109.2.2.2.2.2.2.2.2.2.2.2.2.2.2.2.2.2.2.2.2.1 bt1109.2.2.2.2.2.2.2.2.2.2.2.2.2.2.2.2.2.2.2.2.2.1 bt1109.2.2.2.2.2.2.2.2.2.2.2.2.2.2.2.2.2.2.2.2.2.2.1 bt1109.2.2.2.2.2.2.2.2.2.2.2.2.2.2.2.2.2.2.2.2.2.2.2.1 bt1109.2.2.2.2.2.2.2.2.2.2.2.2.2.2.2.2.2.2.2.2.2.2.2.2.1 bt1109.2.2.2.2.2.2.2.2.2.2.2.2.2.2.2.2.2.2.2.2.2.2.2.2.2.1 bt1109.2.2.2.2.2.2.2.2.2.2.2.2.2.2.2.2.2.2.2.2.2.2.2.2.2.2.1 bt1109.2.2.2.2.2.2.2.2.2.2.2.2.2.2.2.2.2.2.2.2.2.2.2.2.2.2.2.1 bt1109.2.2.2.2.2.2.2.2.2.2.2.2.2.2.2.2.2.2.2.2.2.2.2.2.2.2.2.2 a1 a2 a3 a4).bind fun bt1140 => ((laws_toFace.f a0_0 a0_1 a0_2 a0_3 a0_4 a0_5 a0_6 a0_7 a0_8 a0_9 a0_10 a0_11 a0_12 a0_13 a0_14 a0_15 a0_16 a0_17 a0_18 a0_19 a0_20 a0_21 a0_22 a0_23 a0_24 a0_25 a0_26 a0_27 l0_28).bind fun bt1142 => ((impl_FillLetter.f k bt1142.1 bt1142.2.1 bt1142.2.2.1 bt1142.2.2.2.1 bt1142.2.2.2.2.1 bt1142.2.2.2.2.2.1 bt1142.2.2.2.2.2.2.1 bt1142.2.2.2.2.2.2.2.1 bt1142.2.2.2.2.2.2.2.2.1 bt1142.2.2.2.2.2.2.2.2.2.1 bt1142.2.2.2.2.2.2.2.2.2.2.1 bt1142.2.2.2.2.2.2.2.2.2.2.2.1 bt1142.2.2.2.2.2.2.2.2.2.2.2.2.1 bt1142.2.2.2.2.2.2.2.2.2.2.2.2.2.1 bt1142.2.2.2.2.2.2.2.2.2.2.2.2.2.2.1 bt1142.2.2.2.2.2.2.2.2.2.2.2.2.2.2.2.1 bt1142.2.2.2.2.2.2.2.2.2.2.2.2.2.2.2.2.1 bt1142.2.2.2.2.2.2.2.2.2.2.2.2.2.2.2.2.2.1 bt1142.2.2.2.2.2.2.2.2.2.2.2.2.2.2.2.2.2.2.1 bt1142.2.2.2.2.2.2.2.2.2.2.2.2.2.2.2.2.2.2.2.1 bt1142.2.2.2.2.2.2.2.2.2.2.2.2.2.2.2.2.2.2.2.2.1 bt1142.2.2.2.2.2.2.2.2.2.2.2.2.2.2.2.2.2.2.2.2.2.1 bt1142.2.2.2.2.2.2.2.2.2.2.2.2.2.2.2.2.2.2.2.2.2.2.1 bt1142.2.2.2.2.2.2.2.2.2.2.2.2.2.2.2.2.2.2.2.2.2.2.2.1 bt1142.2.2.2.2.2.2.2.2.2.2.2.2.2.2.2.2.2.2.2.2.2.2.2.2.1 bt1142.2.2.2.2.2.2.2.2.2.2.2.2.2.2.2.2.2.2.2.2.2.2.2.2.2.1 bt1142.2.2.2.2.2.2.2.2.2.2.2.2.2.2.2.2.2.2.2.2.2.2.2.2.2.2.1 bt1142.2.2.2.2.2.2.2.2.2.2.2.2.2.2.2.2.2.2.2.2.2.2.2.2.2.2.2.1 bt1142.2.2.2.2.2.2.2.2.2.2.2.2.2.2.2.2.2.2.2.2.2.2.2.2.2.2.2.2 a1 a2 a3 a4).bind fun bt1174 => (if bt1174.1.toList = bt1140.1.toList then (laws_FnExactFillLetter.j0 k (bt1174.2 != bt1140.2) a0_0 a0_1 a0_2 a0_3 a0_4 a0_5 a0_6 a0_7 a0_8 a0_9 a0_10 a0_11 a0_12 a0_13 a0_14 a0_15 a0_16 a0_17 a0_18 a0_19 a0_20 a0_21 a0_22 a0_23 a0_24 a0_25 a0_26 a0_27 l0_28 bt1142.1 bt1142.2.1 bt1142.2.2.1 bt1142.2.2.2.1 bt1142.2.2.2.2.1 bt1142.2.2.2.2.2.1 bt1142.2.2.2.2.2.2.1 bt1142.2.2.2.2.2.2.2.1 bt1142.2.2.2.2.2.2.2.2.1 bt1142.2.2.2.2.2.2.2.2.2.1 bt1142.2.2.2.2.2.2.2.2.2.2.1 bt1142.2.2.2.2.2.2.2.2.2.2.2.1 bt1142.2.2.2.2.2.2.2.2.2.2.2.2.1 bt1142.2.2.2.2.2.2.2.2.2.2.2.2.2.1 bt1142.2.2.2.2.2.2.2.2.2.2.2.2.2.2.1 bt1142.2.2.2.2.2.2.2.2.2.2.2.2.2.2.2.1 bt1142.2.2.2.2.2.2.2.2.2.2.2.2.2.2.2.2.1 bt1142.2.2.2.2.2.2.2.2.2.2.2.2.2.2.2.2.2.1 bt1142.2.2.2.2.2.2.2.2.2.2.2.2.2.2.2.2.2.2.1 bt1142.2.2.2.2.2.2.2.2.2.2.2.2.2.2.2.2.2.2.2.1 bt1142.2.2.2.2.2.2.2.2.2.2.2.2.2.2.2.2.2.2.2.2.1 bt1142.2.2.2.2.2.2.2.2.2.2.2.2.2.2.2.2.2.2.2.2.2.1 bt1142.2.2.2.2.2.2.2.2.2.2.2.2.2.2.2.2.2.2.2.2.2.2.1 bt1142.2.2.2.2.2.2.2.2.2.2.2.2.2.2.2.2.2.2.2.2.2.2.2.1 bt1142.2.2.2.2.2.2.2.2.2.2.2.2.2.2.2.2.2.2.2.2.2.2.2.2.1 bt1142.2.2.2.2.2.2.2.2.2.2.2.2.2.2.2.2.2.2.2.2.2.2.2.2.2.1 bt1142.2.2.2.2.2.2.2.2.2.2.2.2.2.2.2.2.2.2.2.2.2.2.2.2.2.2.1 bt1142.2.2.2.2.2.2.2.2.2.2.2.2.2.2.2.2.2.2.2.2.2.2.2.2.2.2.2.1 bt1142.2.2.2.2.2.2.2.2.2.2.2.2.2.2.2.2.2.2.2.2.2.2.2.2.2.2.2.2) else (laws_FnExactFillLetter.j0 k true a0_0 a0_1 a0_2 a0_3 a0_4 a0_5 a0_6 a0_7 a0_8 a0_9 a0_10 a0_11 a0_12 a0_13 a0_14 a0_15 a0_16 a0_17 a0_18 a0_19 a0_20 a0_21 a0_22 a0_23 a0_24 a0_25 a0_26 a0_27 l0_28 bt1142.1 bt1142.2.1 bt1142.2.2.1 bt1142.2.2.2.1 bt1142.2.2.2.2.1 bt1142.2.2.2.2.2.1 bt1142.2.2.2.2.2.2.1 bt1142.2.2.2.2.2.2.2.1 bt1142.2.2.2.2.2.2.2.2.1 bt1142.2.2.2.2.2.2.2.2.2.1 bt1142.2.2.2.2.2.2.2.2.2.2.1 bt1142.2.2.2.2.2.2.2.2.2.2.2.1 bt1142.2.2.2.2.2.2.2.2.2.2.2.2.1 bt1142.2.2.2.2.2.2.2.2.2.2.2.2.2.1 bt1142.2.2.2.2.2.2.2.2.2.2.2.2.2.2.1 bt1142.2.2.2.2.2.2.2.2.2.2.2.2.2.2.2.1 bt1142.2.2.2.2.2.2.2.2.2.2.2.2.2.2.2.2.1 bt1142.2.2.2.2.2.2.2.2.2.2.2.2.2.2.2.2.2.1 bt1142.2.2.2.2.2.2.2.2.2.2.2.2.2.2.2.2.2.2.1 bt1142.2.2.2.2.2.2.2.2.2.2.2.2.2.2.2.2.2.2.2.1 bt1142.2.2.2.2.2.2.2.2.2.2.2.2.2.2.2.2.2.2.2.2.1 bt1142.2.2.2.2.2.2.2.2.2.2.2.2.2.2.2.2.2.2.2.2.2.1 bt1142.2.2.2.2.2.2.2.2.2.2.2.2.2.2.2.2.2.2.2.2.2.2.1 bt1142.2.2.2.2.2.2.2.2.2.2.2.2.2.2.2.2.2.2.2.2.2.2.2.1 bt1142.2.2.2.2.2.2.2.2.2.2.2.2.2.2.2.2.2.2.2.2.2.2.2.2.1 bt1142.2.2.2.2.2.2.2.2.2.2.2.2.2.2.2.2.2.2.2.2.2.2.2.2.2.1 bt1142.2.2.2.2.2.2.2.2.2.2.2.2.2.2.2.2.2.2.2.2.2.2.2.2.2.2.1 bt1142.2.2.2.2.2.2.2.2.2.2.2.2.2.2.2.2.2.2.2.2.2.2.2.2.2.2.2.1 bt1142.2.2.2.2.2.2.2.2.2.2.2.2.2.2.2.2.2.2.2.2.2.2.2.2.2.2.2.2)))))))))) = some r := h
  clear h
  by_cases c6 : (a1.size : Int) > 1048576
  · rw [if_pos c6] at H
    have c6b0 : decide (1048576 < (a1.size : Int)) = true := decide_eq_true c6
    have c6b1 : decide (1048576 < a1.size) = true := decide_eq_true (by omega)
    clear c6
    obtain rfl := Option.some.inj H
    go_enter Tryd.func9, Tryd.ntmps9
    go_wp2_with (first | ((with_reducible refine gate_dst (N := 5) rfl ?_); refine box_event ?hg (N := 5) ?hd (cs := #[.int .i8 a0_0, .int .i8 a0_1, .int .i8 a0_2, .int .i8 a0_3, .int .i8 a0_4, .int .i8 a0_5, .int .i8 a0_6, .int .i8 a0_7, .int .i8 a0_8, .int .i8 a0_9, .int .i8 a0_10, .int .i8 a0_11, .int .i8 a0_12, .int .i8 a0_13, .int .i8 a0_14, .int .i8 a0_15, .int .i8 a0_16, .int .i8 a0_17, .int .i8 a0_18, .int .i8 a0_19, .int .i8 a0_20, .int .i8 a0_21, .int .i8 a0_22, .int .i8 a0_23, .int .i8 a0_24, .int .i8 a0_25, .int .i8 a0_26, .int .i8 a0_27, .slice A0_28 l0_28.length c0_28]) (t := 26) ?hr ?_; (case hd => rfl); (case hg => rfl); (case hr => first | (go_simp; done) | (go_simp; rfl)); intro gb1107 hg w7 hbox hb; have n0_ := Aside0.mk (below_step (by repeat (first | (with_reducible first | exact HB.out | apply below_alloc | apply pw_below_drewN | apply below_drew1) | exact HB.out)) hb); have n1_ := Aside0.mk (hbox); have n2_ := Aside0.mk ((by rw [hg]; exact (below_size (by repeat (first | (with_reducible first | exact HB.out | apply below_alloc | apply pw_below_drewN | apply below_drew1) | exact HB.out))) : w.heap.size ≤ gb1107)); have n3_ := Aside0.mk ((by rw [hg]; exact (below_size (by repeat (first | (with_reducible first | exact HB.out | apply below_alloc | apply pw_below_drewN | apply below_drew1) | exact HB.out))) : w.heap.size ≤ gb1107)); clear HB; have HB := n0_; have BK1107 := n1_; have GW1107 := n2_; have GE1107 := n3_; clear n0_ n1_ n2_ n3_; clear hb hbox hg))
    go_ret
    exact ⟨by first | rfl | (simp [errW_none, errW_some] <;> rfl) | (simp [*, errW_none, errW_some] <;> rfl), by repeat (first | (with_reducible first | exact HB.out | apply below_alloc | apply pw_below_drewN | apply below_drew1 | refine below_set ?_ GE1107.out) | exact HB.out)⟩
  · rw [if_neg c6] at H
    have c6b0 : decide (1048576 < (a1.size : Int)) = false := decide_eq_false c6
    have c6b1 : decide (1048576 < a1.size) = false := decide_eq_false (by omega)
    clear c6
    by_cases c8 : (a2.size : Int) > 1048576
    · rw [if_pos c8] at H
      have c8b0 : decide (1048576 < (a2.size : Int)) = true := decide_eq_true c8
      have c8b1 : decide (1048576 < a2.size) = true := decide_eq_true (by omega)
      clear c8
      obtain rfl := Option.some.inj H
      go_enter Tryd.func9, Tryd.ntmps9
      go_wp2_with (first | ((with_reducible refine gate_dst (N := 5) rfl ?_); refine box_event ?hg (N := 5) ?hd (cs := #[.int .i8 a0_0, .int .i8 a0_1, .int .i8 a0_2, .int .i8 a0_3, .int .i8 a0_4, .int .i8 a0_5, .int .i8 a0_6, .int .i8 a0_7, .int .i8 a0_8, .int .i8 a0_9, .int .i8 a0_10, .int .i8 a0_11, .int .i8 a0_12, .int .i8 a0_13, .int .i8 a0_14, .int .i8 a0_15, .int .i8 a0_16, .int .i8 a0_17, .int .i8 a0_18, .int .i8 a0_19, .int .i8 a0_20, .int .i8 a0_21, .int .i8 a0_22, .int .i8 a0_23, .int .i8 a0_24, .int .i8 a0_25, .int .i8 a0_26, .int .i8 a0_27, .slice A0_28 l0_28.length c0_28]) (t := 26) ?hr ?_; (case hd => rfl); (case hg => rfl); (case hr => first | (go_simp; done) | (go_simp; rfl)); intro gb1107 hg w9 hbox hb; have n0_ := Aside0.mk (below_step (by repeat (first | (with_reducible first | exact HB.out | apply below_alloc | apply pw_below_drewN | apply below_drew1) | exact HB.out)) hb); have n1_ := Aside0.mk (hbox); have n2_ := Aside0.mk ((by rw [hg]; exact (below_size (by repeat (first | (with_reducible first | exact HB.out | apply below_alloc | apply pw_below_drewN | apply below_drew1) | exact HB.out))) : w.heap.size ≤ gb1107)); have n3_ := Aside0.mk ((by rw [hg]; exact (below_size (by repeat (first | (with_reducible first | exact HB.out | apply below_alloc | apply pw_below_drewN | apply below_drew1) | exact HB.out))) : w.heap.size ≤ gb1107)); clear HB; have HB := n0_; have BK1107 := n1_; have GW1107 := n2_; have GE1107 := n3_; clear n0_ n1_ n2_ n3_; clear hb hbox hg))
      go_ret
      exact ⟨by first | rfl | (simp [errW_none, errW_some] <;> rfl) | (simp [*, errW_none, errW_some] <;> rfl), by repeat (first | (with_reducible first | exact HB.out | apply below_alloc | apply pw_below_drewN | apply below_drew1 | refine below_set ?_ GE1107.out) | exact HB.out)⟩
    · rw [if_neg c8] at H
      have c8b0 : decide (1048576 < (a2.size : Int)) = false := decide_eq_false c8
      have c8b1 : decide (1048576 < a2.size) = false := decide_eq_false (by omega)
      clear c8
      replace H := Option.bind_eq_some_iff.mp H
      obtain ⟨t1108, A100, H⟩ := H
      replace H : (if t1108 < 0 then (some true) else ((laws_toFace.f a0_0 a0_1 a0_2 a0_3 a0_4 a0_5 a0_6 a0_7 a0_8 a0_9 a0_10 a0_11 a0_12 a0_13 a0_14 a0_15 a0_16 a0_17 a0_18 a0_19 a0_20 a0_21 a0_22 a0_23 a0_24 a0_25 a0_26 a0_27 l0_28).bind fun bt1109 => ((spec_FillLetter.f k bt1109.1 bt1109.2.1 bt1109.2.2.1 bt1109.2.2.2.1 bt1109.2.2.2.2.1 bt1109.2.2.2.2.2.1 bt1109.2.2.2.2.2.2.1 bt1109.2.2.2.2.2.2.2.1 bt1109.2.2.2.2.2.2.2.2.1 bt1109.2.2.2.2.2.2.2.2.2.1 bt1109.2.2.2.2.2.2.2.2.2.2.1 bt1109.2.2.2.2.2.2.2.2.2.2.2.1 bt1109.2.2.2.2.2.2.2.2.2.2.2.2.1 bt1109.2.2.2.2.2.2.2.2.2.2.2.2.2.1 bt1109.2.2.2.2.2.2.2.2.2.2.2.2.2.2.1 bt1109.2.2.2.2.2.2.2.2.2.2.2.2.2.2.2.1 bt1109.2.2.2.2.2.2.2.2.2.2.2.2.2.2.2.2.1 bt1109.2.2.2.2.2.2.2.2.2.2.2.2.2.2.2.2.2.1 bt1109.2.2.2.2.2.2.2.2.2.2.2.2.2.2.2.2.2.2.1 bt1109.2.2.2.2.2.2.2.2.2.2.2.2.2.2.2.2.2.2.2.1 bt1109.2.2.2.2.2.2.2.2.2.2.2.2.2.2.2.2.2.2.2.2.1 bt1109.2.2.2.2.2.2.2.2.2.2.2.2.2.2.2.2.2.2.2.2.2.1 bt1109.2.2.2.2.2.2.2.2.2.2.2.2.2.2.2.2.2.2.2.2.2.2.1 bt1109.2.2.2.2.2.2.2.2.2.2.2.2.2.2.2.2.2.2.2.2.2.2.2.1 bt1109.2.2.2.2.2.2.2.2.2.2.2.2.2.2.2.2.2.2.2.2.2.2.2.2.1 bt1109.2.2.2.2.2.2.2.2.2.2.2.2.2.2.2.2.2.2.2.2.2.2.2.2.2.1 bt1109.2.2.2.2.2.2.2.2.2.2.2.2.2.2.2.2.2.2.2.2.2.2.2.2.2.2.1 bt1109.2.2.2.2.2.2.2.2.2.2.2.2.2.2.2.2.2.2.2.2.2.2.2.2.2.2.2.1 bt1109.2.2.2.2.2.2.2.2.2.2.2.2.2.2.2.2.2.2.2.2.2.2.2.2.2.2.2.2 a1 a2 a3 a4).bind fun bt1140 => ((laws_toFace.f a0_0 a0_1 a0_2 a0_3 a0_4 a0_5 a0_6 a0_7 a0_8 a0_9 a0_10 a0_11 a0_12 a0_13 a0_14 a0_15 a0_16 a0_17 a0_18 a0_19 a0_20 a0_21 a0_22 a0_23 a0_24 a0_25 a0_26 a0_27 l0_28).bind fun bt1142 => ((impl_FillLetter.f k bt1142.1 bt1142.2.1 bt1142.2.2.1 bt1142.2.2.2.1 bt1142.2.2.2.2.1 bt1142.2.2.2.2.2.1 bt1142.2.2.2.2.2.2.1 bt1142.2.2.2.2.2.2.2.1 bt1142.2.2.2.2.2.2.2.2.1 bt1142.2.2.2.2.2.2.2.2.2.1 bt1142.2.2.2.2.2.2.2.2.2.2.1 bt1142.2.2.2.2.2.2.2.2.2.2.2.1 bt1142.2.2.2.2.2.2.2.2.2.2.2.2.1 bt1142.2.2.2.2.2.2.2.2.2.2.2.2.2.1 bt1142.2.2.2.2.2.2.2.2.2.2.2.2.2.2.1 bt1142.2.2.2.2.2.2.2.2.2.2.2.2.2.2.2.1 bt1142.2.2.2.2.2.2.2.2.2.2.2.2.2.2.2.2.1 bt1142.2.2.2.2.2.2.2.2.2.2.2.2.2.2.2.2.2.1 bt1142.2.2.2.2.2.2.2.2.2.2.2.2.2.2.2.2.2.2.1 bt1142.2.2.2.2.2.2.2.2.2.2.2.2.2.2.2.2.2.2.2.1 bt1142.2.2.2.2.2.2.2.2.2.2.2.2.2.2.2.2.2.2.2.2.1 bt1142.2.2.2.2.2.2.2.2.2.2.2.2.2.2.2.2.2.2.2.2.2.1 bt1142.2.2.2.2.2.2.2.2.2.2.2.2.2.2.2.2.2.2.2.2.2.2.1 bt1142.2.2.2.2.2.2.2.2.2.2.2.2.2.2.2.2.2.2.2.2.2.2.2.1 bt1142.2.2.2.2.2.2.2.2.2.2.2.2.2.2.2.2.2.2.2.2.2.2.2.2.1 bt1142.2.2.2.2.2.2.2.2.2.2.2.2.2.2.2.2.2.2.2.2.2.2.2.2.2.1 bt1142.2.2.2.2.2.2.2.2.2.2.2.2.2.2.2.2.2.2.2.2.2.2.2.2.2.2.1 bt1142.2.2.2.2.2.2.2.2.2.2.2.2.2.2.2.2.2.2.2.2.2.2.2.2.2.2.2.1 bt1142.2.2.2.2.2.2.2.2.2.2.2.2.2.2.2.2.2.2.2.2.2.2.2.2.2.2.2.2 a1 a2 a3 a4).bind fun bt1174 => (if bt1174.1.toList = bt1140.1.toList then (laws_FnExactFillLetter.j0 k (bt1174.2 != bt1140.2) a0_0 a0_1 a0_2 a0_3 a0_4 a0_5 a0_6 a0_7 a0_8 a0_9 a0_10 a0_11 a0_12 a0_13 a0_14 a0_15 a0_16 a0_17 a0_18 a0_19 a0_20 a0_21 a0_22 a0_23 a0_24 a0_25 a0_26 a0_27 l0_28 bt1142.1 bt1142.2.1 bt1142.2.2.1 bt1142.2.2.2.1 bt1142.2.2.2.2.1 bt1142.2.2.2.2.2.1 bt1142.2.2.2.2.2.2.1 bt1142.2.2.2.2.2.2.2.1 bt1142.2.2.2.2.2.2.2.2.1 bt1142.2.2.2.2.2.2.2.2.2.1 bt1142.2.2.2.2.2.2.2.2.2.2.1 bt1142.2.2.2.2.2.2.2.2.2.2.2.1 bt1142.2.2.2.2.2.2.2.2.2.2.2.2.1 bt1142.2.2.2.2.2.2.2.2.2.2.2.2.2.1 bt1142.2.2.2.2.2.2.2.2.2.2.2.2.2.2.1 bt1142.2.2.2.2.2.2.2.2.2.2.2.2.2.2.2.1 bt1142.2.2.2.2.2.2.2.2.2.2.2.2.2.2.2.2.1 bt1142.2.2.2.2.2.2.2.2.2.2.2.2.2.2.2.2.2.1 bt1142.2.2.2.2.2.2.2.2.2.2.2.2.2.2.2.2.2.2.1 bt1142.2.2.2.2.2.2.2.2.2.2.2.2.2.2.2.2.2.2.2.1 bt1142.2.2.2.2.2.2.2.2.2.2.2.2.2.2.2.2.2.2.2.2.1 bt1142.2.2.2.2.2.2.2.2.2.2.2.2.2.2.2.2.2.2.2.2.2.1 bt1142.2.2.2.2.2.2.2.2.2.2.2.2.2.2.2.2.2.2.2.2.2.2.1 bt1142.2.2.2.2.2.2.2.2.2.2.2.2.2.2.2.2.2.2.2.2.2.2.2.1 bt1142.2.2.2.2.2.2.2.2.2.2.2.2.2.2.2.2.2.2.2.2.2.2.2.2.1 bt1142.2.2.2.2.2.2.2.2.2.2.2.2.2.2.2.2.2.2.2.2.2.2.2.2.2.1 bt1142.2.2.2.2.2.2.2.2.2.2.2.2.2.2.2.2.2.2.2.2.2.2.2.2.2.2.1 bt1142.2.2.2.2.2.2.2.2.2.2.2.2.2.2.2.2.2.2.2.2.2.2.2.2.2.2.2.1 bt1142.2.2.2.2.2.2.2.2.2.2.2.2.2.2.2.2.2.2.2.2.2.2.2.2.2.2.2.2) else (laws_FnExactFillLetter.j0 k true a0_0 a0_1 a0_2 a0_3 a0_4 a0_5 a0_6 a0_7 a0_8 a0_9 a0_10 a0_11 a0_12 a0_13 a0_14 a0_15 a0_16 a0_17 a0_18 a0_19 a0_20 a0_21 a0_22 a0_23 a0_24 a0_25 a0_26 a0_27 l0_28 bt1142.1 bt1142.2.1 bt1142.2.2.1 bt1142.2.2.2.1 bt1142.2.2.2.2.1 bt1142.2.2.2.2.2.1 bt1142.2.2.2.2.2.2.1 bt1142.2.2.2.2.2.2.2.1 bt1142.2.2.2.2.2.2.2.2.1 bt1142.2.2.2.2.2.2.2.2.2.1 bt1142.2.2.2.2.2.2.2.2.2.2.1 bt1142.2.2.2.2.2.2.2.2.2.2.2.1 bt1142.2.2.2.2.2.2.2.2.2.2.2.2.1 bt1142.2.2.2.2.2.2.2.2.2.2.2.2.2.1 bt1142.2.2.2.2.2.2.2.2.2.2.2.2.2.2.1 bt1142.2.2.2.2.2.2.2.2.2.2.2.2.2.2.2.1 bt1142.2.2.2.2.2.2.2.2.2.2.2.2.2.2.2.2.1 bt1142.2.2.2.2.2.2.2.2.2.2.2.2.2.2.2.2.2.1 bt1142.2.2.2.2.2.2.2.2.2.2.2.2.2.2.2.2.2.2.1 bt1142.2.2.2.2.2.2.2.2.2.2.2.2.2.2.2.2.2.2.2.1 bt1142.2.2.2.2.2.2.2.2.2.2.2.2.2.2.2.2.2.2.2.2.1 bt1142.2.2.2.2.2.2.2.2.2.2.2.2.2.2.2.2.2.2.2.2.2.1 bt1142.2.2.2.2.2.2.2.2.2.2.2.2.2.2.2.2.2.2.2.2.2.2.1 bt1142.2.2.2.2.2.2.2.2.2.2.2.2.2.2.2.2.2.2.2.2.2.2.2.1 bt1142.2.2.2.2.2.2.2.2.2.2.2.2.2.2.2.2.2.2.2.2.2.2.2.2.1 bt1142.2.2.2.2.2.2.2.2.2.2.2.2.2.2.2.2.2.2.2.2.2.2.2.2.2.1 bt1142.2.2.2.2.2.2.2.2.2.2.2.2.2.2.2.2.2.2.2.2.2.2.2.2.2.2.1 bt1142.2.2.2.2.2.2.2.2.2.2.2.2.2.2.2.2.2.2.2.2.2.2.2.2.2.2.2.1 bt1142.2.2.2.2.2.2.2.2.2.2.2.2.2.2.2.2.2.2.2.2.2.2.2.2.2.2.2.2))))))) = some r := H
      have A10 := Aside0.mk A100
      clear A100
      by_cases c11 : t1108 < 0
      · rw [if_pos c11] at H
        have c11b0 : decide (t1108 < 0) = true := decide_eq_true c11
        clear c11
        obtain rfl := Option.some.inj H
        go_enter Tryd.func9, Tryd.ntmps9
        go_wp2_with (first | ((with_reducible refine gate_dst (N := 5) rfl ?_); refine box_event ?hg (N := 5) ?hd (cs := #[.int .i8 a0_0, .int .i8 a0_1, .int .i8 a0_2, .int .i8 a0_3, .int .i8 a0_4, .int .i8 a0_5, .int .i8 a0_6, .int .i8 a0_7, .int .i8 a0_8, .int .i8 a0_9, .int .i8 a0_10, .int .i8 a0_11, .int .i8 a0_12, .int .i8 a0_13, .int .i8 a0_14, .int .i8 a0_15, .int .i8 a0_16, .int .i8 a0_17, .int .i8 a0_18, .int .i8 a0_19, .int .i8 a0_20, .int .i8 a0_21, .int .i8 a0_22, .int .i8 a0_23, .int .i8 a0_24, .int .i8 a0_25, .int .i8 a0_26, .int .i8 a0_27, .slice A0_28 l0_28.length c0_28]) (t := 26) ?hr ?_; (case hd => rfl); (case hg => rfl); (case hr => first | (go_simp; done) | (go_simp; rfl)); intro gb1107 hg w12 hbox hb; have n0_ := Aside0.mk (below_step (by repeat (first | (with_reducible first | exact HB.out | apply below_alloc | apply pw_below_drewN | apply below_drew1) | exact HB.out)) hb); have n1_ := Aside0.mk (hbox); have n2_ := Aside0.mk ((by rw [hg]; exact (below_size (by repeat (first | (with_reducible first | exact HB.out | apply below_alloc | apply pw_below_drewN | apply below_drew1) | exact HB.out))) : w.heap.size ≤ gb1107)); have n3_ := Aside0.mk ((by rw [hg]; exact (below_size (by repeat (first | (with_reducible first | exact HB.out | apply below_alloc | apply pw_below_drewN | apply below_drew1) | exact HB.out))) : w.heap.size ≤ gb1107)); clear HB; have HB := n0_; have BK1107 := n1_; have GW1107 := n2_; have GE1107 := n3_; clear n0_ n1_ n2_ n3_; clear hb hbox hg) | ((with_reducible refine gate_dst (N := 23) rfl ?_); refine wpList_load_mid rfl 26 (.tmp 5) rfl gb1107 0 rfl [.int .i8 a0_0, .int .i8 a0_1, .int .i8 a0_2, .int .i8 a0_3, .int .i8 a0_4, .int .i8 a0_5, .int .i8 a0_6, .int .i8 a0_7, .int .i8 a0_8, .int .i8 a0_9, .int .i8 a0_10, .int .i8 a0_11, .int .i8 a0_12, .int .i8 a0_13, .int .i8 a0_14, .int .i8 a0_15, .int .i8 a0_16, .int .i8 a0_17, .int .i8 a0_18, .int .i8 a0_19, .int .i8 a0_20, .int .i8 a0_21, .int .i8 a0_22, .int .i8 a0_23, .int .i8 a0_24, .int .i8 a0_25, .int .i8 a0_26, .int .i8 a0_27, .slice A0_28 l0_28.length c0_28] _ (range_partx_ [] [.int .i8 a0_0, .int .i8 a0_1, .int .i8 a0_2, .int .i8 a0_3, .int .i8 a0_4, .int .i8 a0_5, .int .i8 a0_6, .int .i8 a0_7, .int .i8 a0_8, .int .i8 a0_9, .int .i8 a0_10, .int .i8 a0_11, .int .i8 a0_12, .int .i8 a0_13, .int .i8 a0_14, .int .i8 a0_15, .int .i8 a0_16, .int .i8 a0_17, .int .i8 a0_18, .int .i8 a0_19, .int .i8 a0_20, .int .i8 a0_21, .int .i8 a0_22, .int .i8 a0_23, .int .i8 a0_24, .int .i8 a0_25, .int .i8 a0_26, .int .i8 a0_27, .slice A0_28 l0_28.length c0_28] [] 0 rfl (by (with_reducible repeat (first | refine blk_drewN ?_ _ | refine blk_drew ?_ | refine blk_alloc ?_ _)); exact BK1107.out)) Tryd.underlying26 rfl (by exact (show (Tryd.prog.info? 26).map (·.size) = some 29 by kernel_rfl)) ?_) | ((with_reducible refine gate_callee (f := 18) rfl ?_); refine goesL_ (some 25) rfl rfl Tryd.func18 (by kernel_rfl) rfl #[.agg #[.int .i8 a0_0, .int .i8 a0_1, .int .i8 a0_2, .int .i8 a0_3, .int .i8 a0_4, .int .i8 a0_5, .int .i8 a0_6, .int .i8 a0_7, .int .i8 a0_8, .int .i8 a0_9, .int .i8 a0_10, .int .i8 a0_11, .int .i8 a0_12, .int .i8 a0_13, .int .i8 a0_14, .int .i8 a0_15, .int .i8 a0_16, .int .i8 a0_17, .int .i8 a0_18, .int .i8 a0_19, .int .i8 a0_20, .int .i8 a0_21, .int .i8 a0_22, .int .i8 a0_23, .int .i8 a0_24, .int .i8 a0_25, .int .i8 a0_26, .int .i8 a0_27, .slice A0_28 l0_28.length c0_28], .int .i64 1048576] rfl (by (try simp only [List.map_toArray, List.map_cons, List.map_nil]); first | done | rfl | (simp only [List.length_drop, List.length_take]; rfl)) ?_; (with_reducible refine (laws_szFace.calls a0_0 a0_1 a0_2 a0_3 a0_4 a0_5 a0_6 a0_7 a0_8 a0_9 a0_10 a0_11 a0_12 a0_13 a0_14 a0_15 a0_16 a0_17 a0_18 a0_19 a0_20 a0_21 a0_22 a0_23 a0_24 a0_25 a0_26 a0_27 _ _ l0_28 1048576 t1108 _ ?side1 ?side2 A10.out).mono ?_); (case side1 => repeat (first | exact (Kd.C_below HR0_28.out HB.out) | (with_reducible refine Kd.C_alloc ?_ _) | (with_reducible refine Kd.C_drewN ?_ _) | (with_reducible refine Kd.C_drew ?_))); (case side2 => exact HC0_28.out); rintro e w13 ⟨rfl, hb⟩; refine ⟨_, rfl, ?_⟩; have n0_ := Aside0.mk (blk_below (g := gb1107) (o := .cells #[.int .i8 a0_0, .int .i8 a0_1, .int .i8 a0_2, .int .i8 a0_3, .int .i8 a0_4, .int .i8 a0_5, .int .i8 a0_6, .int .i8 a0_7, .int .i8 a0_8, .int .i8 a0_9, .int .i8 a0_10, .int .i8 a0_11, .int .i8 a0_12, .int .i8 a0_13, .int .i8 a0_14, .int .i8 a0_15, .int .i8 a0_16, .int .i8 a0_17, .int .i8 a0_18, .int .i8 a0_19, .int .i8 a0_20, .int .i8 a0_21, .int .i8 a0_22, .int .i8 a0_23, .int .i8 a0_24, .int .i8 a0_25, .int .i8 a0_26, .int .i8 a0_27, .slice A0_28 l0_28.length c0_28] 26 (0, 0)) (by (with_reducible repeat (first | refine blk_drewN ?_ _ | refine blk_drew ?_ | refine blk_alloc ?_ _)); exact BK1107.out) hb); have n1_ := Aside0.mk (below_step (by repeat (first | (with_reducible first | exact HB.out | apply below_alloc | apply pw_below_drewN | apply below_drew1 | refine below_set ?_ GE1107.out) | exact HB.out)) hb); clear BK1107; clear HB; have BK1107 := n0_; have HB := n1_; clear n0_ n1_; (try clear hb); (try clear hb2); (try clear hk); (try clear hi)))
        go_ret
        exact ⟨by first | rfl | (simp [errW_none, errW_some] <;> rfl) | (simp [*, errW_none, errW_some] <;> rfl), by repeat (first | (with_reducible first | exact HB.out | apply below_alloc | apply pw_below_drewN | apply below_drew1 | refine below_set ?_ GE1107.out) | exact HB.out)⟩
      · rw [if_neg c11] at H
        have c11b0 : decide (t1108 < 0) = false := decide_eq_false c11
        clear c11
        replace H := Option.bind_eq_some_iff.mp H
        obtain ⟨⟨t1109, t1110, t1111, t1112, t1113, t1114, t1115, t1116, t1117, t1118, t1119, t1120, t1121, t1122, t1123, t1124, t1125, t1126, t1127, t1128, t1129, t1130, t1131, t1132, t1133, t1134, t1135, t1136, t1137⟩, A140, H⟩ := H
        replace H : ((spec_FillLetter.f k t1109 t1110 t1111 t1112 t1113 t1114 t1115 t1116 t1117 t1118 t1119 t1120 t1121 t1122 t1123 t1124 t1125 t1126 t1127 t1128 t1129 t1130 t1131 t1132 t1133 t1134 t1135 t1136 t1137 a1 a2 a3 a4).bind fun bt1140 => ((laws_toFace.f a0_0 a0_1 a0_2 a0_3 a0_4 a0_5 a0_6 a0_7 a0_8 a0_9 a0_10 a0_11 a0_12 a0_13 a0_14 a0_15 a0_16 a0_17 a0_18 a0_19 a0_20 a0_21 a0_22 a0_23 a0_24 a0_25 a0_26 a0_27 l0_28).bind fun bt1142 => ((impl_FillLetter.f k bt1142.1 bt1142.2.1 bt1142.2.2.1 bt1142.2.2.2.1 bt1142.2.2.2.2.1 bt1142.2.2.2.2.2.1 bt1142.2.2.2.2.2.2.1 bt1142.2.2.2.2.2.2.2.1 bt1142.2.2.2.2.2.2.2.2.1 bt1142.2.2.2.2.2.2.2.2.2.1 bt1142.2.2.2.2.2.2.2.2.2.2.1 bt1142.2.2.2.2.2.2.2.2.2.2.2.1 bt1142.2.2.2.2.2.2.2.2.2.2.2.2.1 bt1142.2.2.2.2.2.2.2.2.2.2.2.2.2.1 bt1142.2.2.2.2.2.2.2.2.2.2.2.2.2.2.1 bt1142.2.2.2.2.2.2.2.2.2.2.2.2.2.2.2.1 bt1142.2.2.2.2.2.2.2.2.2.2.2.2.2.2.2.2.1 bt1142.2.2.2.2.2.2.2.2.2.2.2.2.2.2.2.2.2.1 bt1142.2.2.2.2.2.2.2.2.2.2.2.2.2.2.2.2.2.2.1 bt1142.2.2.2.2.2.2.2.2.2.2.2.2.2.2.2.2.2.2.2.1 bt1142.2.2.2.2.2.2.2.2.2.2.2.2.2.2.2.2.2.2.2.2.1 bt1142.2.2.2.2.2.2.2.2.2.2.2.2.2.2.2.2.2.2.2.2.2.1 bt1142.2.2.2.2.2.2.2.2.2.2.2.2.2.2.2.2.2.2.2.2.2.2.1 bt1142.2.2.2.2.2.2.2.2.2.2.2.2.2.2.2.2.2.2.2.2.2.2.2.1 bt1142.2.2.2.2.2.2.2.2.2.2.2.2.2.2.2.2.2.2.2.2.2.2.2.2.1 bt1142.2.2.2.2.2.2.2.2.2.2.2.2.2.2.2.2.2.2.2.2.2.2.2.2.2.1 bt1142.2.2.2.2.2.2.2.2.2.2.2.2.2.2.2.2.2.2.2.2.2.2.2.2.2.2.1 bt1142.2.2.2.2.2.2.2.2.2.2.2.2.2.2.2.2.2.2.2.2.2.2.2.2.2.2.2.1 bt1142.2.2.2.2.2.2.2.2.2.2.2.2.2.2.2.2.2.2.2.2.2.2.2.2.2.2.2.2 a1 a2 a3 a4).bind fun bt1174 => (if bt1174.1.toList = bt1140.1.toList then (laws_FnExactFillLetter.j0 k (bt1174.2 != bt1140.2) a0_0 a0_1 a0_2 a0_3 a0_4 a0_5 a0_6 a0_7 a0_8 a0_9 a0_10 a0_11 a0_12 a0_13 a0_14 a0_15 a0_16 a0_17 a0_18 a0_19 a0_20 a0_21 a0_22 a0_23 a0_24 a0_25 a0_26 a0_27 l0_28 bt1142.1 bt1142.2.1 bt1142.2.2.1 bt1142.2.2.2.1 bt1142.2.2.2.2.1 bt1142.2.2.2.2.2.1 bt1142.2.2.2.2.2.2.1 bt1142.2.2.2.2.2.2.2.1 bt1142.2.2.2.2.2.2.2.2.1 bt1142.2.2.2.2.2.2.2.2.2.1 bt1142.2.2.2.2.2.2.2.2.2.2.1 bt1142.2.2.2.2.2.2.2.2.2.2.2.1 bt1142.2.2.2.2.2.2.2.2.2.2.2.2.1 bt1142.2.2.2.2.2.2.2.2.2.2.2.2.2.1 bt1142.2.2.2.2.2.2.2.2.2.2.2.2.2.2.1 bt1142.2.2.2.2.2.2.2.2.2.2.2.2.2.2.2.1 bt1142.2.2.2.2.2.2.2.2.2.2.2.2.2.2.2.2.1 bt1142.2.2.2.2.2.2.2.2.2.2.2.2.2.2.2.2.2.1 bt1142.2.2.2.2.2.2.2.2.2.2.2.2.2.2.2.2.2.2.1 bt1142.2.2.2.2.2.2.2.2.2.2.2.2.2.2.2.2.2.2.2.1 bt1142.2.2.2.2.2.2.2.2.2.2.2.2.2.2.2.2.2.2.2.2.1 bt1142.2.2.2.2.2.2.2.2.2.2.2.2.2.2.2.2.2.2.2.2.2.1 bt1142.2.2.2.2.2.2.2.2.2.2.2.2.2.2.2.2.2.2.2.2.2.2.1 bt1142.2.2.2.2.2.2.2.2.2.2.2.2.2.2.2.2.2.2.2.2.2.2.2.1 bt1142.2.2.2.2.2.2.2.2.2.2.2.2.2.2.2.2.2.2.2.2.2.2.2.2.1 bt1142.2.2.2.2.2.2.2.2.2.2.2.2.2.2.2.2.2.2.2.2.2.2.2.2.2.1 bt1142.2.2.2.2.2.2.2.2.2.2.2.2.2.2.2.2.2.2.2.2.2.2.2.2.2.2.1 bt1142.2.2.2.2.2.2.2.2.2.2.2.2.2.2.2.2.2.2.2.2.2.2.2.2.2.2.2.1 bt1142.2.2.2.2.2.2.2.2.2.2.2.2.2.2.2.2.2.2.2.2.2.2.2.2.2.2.2.2) else (laws_FnExactFillLetter.j0 k true a0_0 a0_1 a0_2 a0_3 a0_4 a0_5 a0_6 a0_7 a0_8 a0_9 a0_10 a0_11 a0_12 a0_13 a0_14 a0_15 a0_16 a0_17 a0_18 a0_19 a0_20 a0_21 a0_22 a0_23 a0_24 a0_25 a0_26 a0_27 l0_28 bt1142.1 bt1142.2.1 bt1142.2.2.1 bt1142.2.2.2.1 bt1142.2.2.2.2.1 bt1142.2.2.2.2.2.1 bt1142.2.2.2.2.2.2.1 bt1142.2.2.2.2.2.2.2.1 bt1142.2.2.2.2.2.2.2.2.1 bt1142.2.2.2.2.2.2.2.2.2.1 bt1142.2.2.2.2.2.2.2.2.2.2.1 bt1142.2.2.2.2.2.2.2.2.2.2.2.1 bt1142.2.2.2.2.2.2.2.2.2.2.2.2.1 bt1142.2.2.2.2.2.2.2.2.2.2.2.2.2.1 bt1142.2.2.2.2.2.2.2.2.2.2.2.2.2.2.1 bt1142.2.2.2.2.2.2.2.2.2.2.2.2.2.2.2.1 bt1142.2.2.2.2.2.2.2.2.2.2.2.2.2.2.2.2.1 bt1142.2.2.2.2.2.2.2.2.2.2.2.2.2.2.2.2.2.1 bt1142.2.2.2.2.2.2.2.2.2.2.2.2.2.2.2.2.2.2.1 bt1142.2.2.2.2.2.2.2.2.2.2.2.2.2.2.2.2.2.2.2.1 bt1142.2.2.2.2.2.2.2.2.2.2.2.2.2.2.2.2.2.2.2.2.1 bt1142.2.2.2.2.2.2.2.2.2.2.2.2.2.2.2.2.2.2.2.2.2.1 bt1142.2.2.2.2.2.2.2.2.2.2.2.2.2.2.2.2.2.2.2.2.2.2.1 bt1142.2.2.2.2.2.2.2.2.2.2.2.2.2.2.2.2.2.2.2.2.2.2.2.1 bt1142.2.2.2.2.2.2.2.2.2.2.2.2.2.2.2.2.2.2.2.2.2.2.2.2.1 bt1142.2.2.2.2.2.2.2.2.2.2.2.2.2.2.2.2.2.2.2.2.2.2.2.2.2.1 bt1142.2.2.2.2.2.2.2.2.2.2.2.2.2.2.2.2.2.2.2.2.2.2.2.2.2.2.1 bt1142.2.2.2.2.2.2.2.2.2.2.2.2.2.2.2.2.2.2.2.2.2.2.2.2.2.2.2.1 bt1142.2.2.2.2.2.2.2.2.2.2.2.2.2.2.2.2.2.2.2.2.2.2.2.2.2.2.2.2))))) = some r := H
        have A14 := Aside0.mk A140
        clear A140
        replace H := Option.bind_eq_some_iff.mp H
        obtain ⟨⟨t1140, t1141⟩, A150, H⟩ := H
        replace H : ((laws_toFace.f a0_0 a0_1 a0_2 a0_3 a0_4 a0_5 a0_6 a0_7 a0_8 a0_9 a0_10 a0_11 a0_12 a0_13 a0_14 a0_15 a0_16 a0_17 a0_18 a0_19 a0_20 a0_21 a0_22 a0_23 a0_24 a0_25 a0_26 a0_27 l0_28).bind fun bt1142 => ((impl_FillLetter.f k bt1142.1 bt1142.2.1 bt1142.2.2.1 bt1142.2.2.2.1 bt1142.2.2.2.2.1 bt1142.2.2.2.2.2.1 bt1142.2.2.2.2.2.2.1 bt1142.2.2.2.2.2.2.2.1 bt1142.2.2.2.2.2.2.2.2.1 bt1142.2.2.2.2.2.2.2.2.2.1 bt1142.2.2.2.2.2.2.2.2.2.2.1 bt1142.2.2.2.2.2.2.2.2.2.2.2.1 bt1142.2.2.2.2.2.2.2.2.2.2.2.2.1 bt1142.2.2.2.2.2.2.2.2.2.2.2.2.2.1 bt1142.2.2.2.2.2.2.2.2.2.2.2.2.2.2.1 bt1142.2.2.2.2.2.2.2.2.2.2.2.2.2.2.2.1 bt1142.2.2.2.2.2.2.2.2.2.2.2.2.2.2.2.2.1 bt1142.2.2.2.2.2.2.2.2.2.2.2.2.2.2.2.2.2.1 bt1142.2.2.2.2.2.2.2.2.2.2.2.2.2.2.2.2.2.2.1 bt1142.2.2.2.2.2.2.2.2.2.2.2.2.2.2.2.2.2.2.2.1 bt1142.2.2.2.2.2.2.2.2.2.2.2.2.2.2.2.2.2.2.2.2.1 bt1142.2.2.2.2.2.2.2.2.2.2.2.2.2.2.2.2.2.2.2.2.2.1 bt1142.2.2.2.2.2.2.2.2.2.2.2.2.2.2.2.2.2.2.2.2.2.2.1 bt1142.2.2.2.2.2.2.2.2.2.2.2.2.2.2.2.2.2.2.2.2.2.2.2.1 bt1142.2.2.2.2.2.2.2.2.2.2.2.2.2.2.2.2.2.2.2.2.2.2.2.2.1 bt1142.2.2.2.2.2.2.2.2.2.2.2.2.2.2.2.2.2.2.2.2.2.2.2.2.2.1 bt1142.2.2.2.2.2.2.2.2.2.2.2.2.2.2.2.2.2.2.2.2.2.2.2.2.2.2.1 bt1142.2.2.2.2.2.2.2.2.2.2.2.2.2.2.2.2.2.2.2.2.2.2.2.2.2.2.2.1 bt1142.2.2.2.2.2.2.2.2.2.2.2.2.2.2.2.2.2.2.2.2.2.2.2.2.2.2.2.2 a1 a2 a3 a4).bind fun bt1174 => (if bt1174.1.toList = t1140.toList then (laws_FnExactFillLetter.j0 k (bt1174.2 != t1141) a0_0 a0_1 a0_2 a0_3 a0_4 a0_5 a0_6 a0_7 a0_8 a0_9 a0_10 a0_11 a0_12 a0_13 a0_14 a0_15 a0_16 a0_17 a0_18 a0_19 a0_20 a0_21 a0_22 a0_23 a0_24 a0_25 a0_26 a0_27 l0_28 bt1142.1 bt1142.2.1 bt1142.2.2.1 bt1142.2.2.2.1 bt1142.2.2.2.2.1 bt1142.2.2.2.2.2.1 bt1142.2.2.2.2.2.2.1 bt1142.2.2.2.2.2.2.2.1 bt1142.2.2.2.2.2.2.2.2.1 bt1142.2.2.2.2.2.2.2.2.2.1 bt1142.2.2.2.2.2.2.2.2.2.2.1 bt1142.2.2.2.2.2.2.2.2.2.2.2.1 bt1142.2.2.2.2.2.2.2.2.2.2.2.2.1 bt1142.2.2.2.2.2.2.2.2.2.2.2.2.2.1 bt1142.2.2.2.2.2.2.2.2.2.2.2.2.2.2.1 bt1142.2.2.2.2.2.2.2.2.2.2.2.2.2.2.2.1 bt1142.2.2.2.2.2.2.2.2.2.2.2.2.2.2.2.2.1 bt1142.2.2.2.2.2.2.2.2.2.2.2.2.2.2.2.2.2.1 bt1142.2.2.2.2.2.2.2.2.2.2.2.2.2.2.2.2.2.2.1 bt1142.2.2.2.2.2.2.2.2.2.2.2.2.2.2.2.2.2.2.2.1 bt1142.2.2.2.2.2.2.2.2.2.2.2.2.2.2.2.2.2.2.2.2.1 bt1142.2.2.2.2.2.2.2.2.2.2.2.2.2.2.2.2.2.2.2.2.2.1 bt1142.2.2.2.2.2.2.2.2.2.2.2.2.2.2.2.2.2.2.2.2.2.2.1 bt1142.2.2.2.2.2.2.2.2.2.2.2.2.2.2.2.2.2.2.2.2.2.2.2.1 bt1142.2.2.2.2.2.2.2.2.2.2.2.2.2.2.2.2.2.2.2.2.2.2.2.2.1 bt1142.2.2.2.2.2.2.2.2.2.2.2.2.2.2.2.2.2.2.2.2.2.2.2.2.2.1 bt1142.2.2.2.2.2.2.2.2.2.2.2.2.2.2.2.2.2.2.2.2.2.2.2.2.2.2.1 bt1142.2.2.2.2.2.2.2.2.2.2.2.2.2.2.2.2.2.2.2.2.2.2.2.2.2.2.2.1 bt1142.2.2.2.2.2.2.2.2.2.2.2.2.2.2.2.2.2.2.2.2.2.2.2.2.2.2.2.2) else (laws_FnExactFillLetter.j0 k true a0_0 a0_1 a0_2 a0_3 a0_4 a0_5 a0_6 a0_7 a0_8 a0_9 a0_10 a0_11 a0_12 a0_13 a0_14 a0_15 a0_16 a0_17 a0_18 a0_19 a0_20 a0_21 a0_22 a0_23 a0_24 a0_25 a0_26 a0_27 l0_28 bt1142.1 bt1142.2.1 bt1142.2.2.1 bt1142.2.2.2.1 bt1142.2.2.2.2.1 bt1142.2.2.2.2.2.1 bt1142.2.2.2.2.2.2.1 bt1142.2.2.2.2.2.2.2.1 bt1142.2.2.2.2.2.2.2.2.1 bt1142.2.2.2.2.2.2.2.2.2.1 bt1142.2.2.2.2.2.2.2.2.2.2.1 bt1142.2.2.2.2.2.2.2.2.2.2.2.1 bt1142.2.2.2.2.2.2.2.2.2.2.2.2.1 bt1142.2.2.2.2.2.2.2.2.2.2.2.2.2.1 bt1142.2.2.2.2.2.2.2.2.2.2.2.2.2.2.1 bt1142.2.2.2.2.2.2.2.2.2.2.2.2.2.2.2.1 bt1142.2.2.2.2.2.2.2.2.2.2.2.2.2.2.2.2.1 bt1142.2.2.2.2.2.2.2.2.2.2.2.2.2.2.2.2.2.1 bt1142.2.2.2.2.2.2.2.2.2.2.2.2.2.2.2.2.2.2.1 bt1142.2.2.2.2.2.2.2.2.2.2.2.2.2.2.2.2.2.2.2.1 bt1142.2.2.2.2.2.2.2.2.2.2.2.2.2.2.2.2.2.2.2.2.1 bt1142.2.2.2.2.2.2.2.2.2.2.2.2.2.2.2.2.2.2.2.2.2.1 bt1142.2.2.2.2.2.2.2.2.2.2.2.2.2.2.2.2.2.2.2.2.2.2.1 bt1142.2.2.2.2.2.2.2.2.2.2.2.2.2.2.2.2.2.2.2.2.2.2.2.1 bt1142.2.2.2.2.2.2.2.2.2.2.2.2.2.2.2.2.2.2.2.2.2.2.2.2.1 bt1142.2.2.2.2.2.2.2.2.2.2.2.2.2.2.2.2.2.2.2.2.2.2.2.2.2.1 bt1142.2.2.2.2.2.2.2.2.2.2.2.2.2.2.2.2.2.2.2.2.2.2.2.2.2.2.1 bt1142.2.2.2.2.2.2.2.2.2.2.2.2.2.2.2.2.2.2.2.2.2.2.2.2.2.2.2.1 bt1142.2.2.2.2.2.2.2.2.2.2.2.2.2.2.2.2.2.2.2.2.2.2.2.2.2.2.2.2)))) = some r := H
        have A15 := Aside0.mk A150
        clear A150
        replace H := Option.bind_eq_some_iff.mp H
        obtain ⟨⟨t1142, t1143, t1144, t1145, t1146, t1147, t1148, t1149, t1150, t1151, t1152, t1153, t1154, t1155, t1156, t1157, t1158, t1159, t1160, t1161, t1162, t1163, t1164, t1165, t1166, t1167, t1168, t1169, t1170⟩, A160, H⟩ := H
        replace H : ((impl_FillLetter.f k t1142 t1143 t1144 t1145 t1146 t1147 t1148 t1149 t1150 t1151 t1152 t1153 t1154 t1155 t1156 t1157 t1158 t1159 t1160 t1161 t1162 t1163 t1164 t1165 t1166 t1167 t1168 t1169 t1170 a1 a2 a3 a4).bind fun bt1174 => (if bt1174.1.toList = t1140.toList then (laws_FnExactFillLetter.j0 k (bt1174.2 != t1141) a0_0 a0_1 a0_2 a0_3 a0_4 a0_5 a0_6 a0_7 a0_8 a0_9 a0_10 a0_11 a0_12 a0_13 a0_14 a0_15 a0_16 a0_17 a0_18 a0_19 a0_20 a0_21 a0_22 a0_23 a0_24 a0_25 a0_26 a0_27 l0_28 t1142 t1143 t1144 t1145 t1146 t1147 t1148 t1149 t1150 t1151 t1152 t1153 t1154 t1155 t1156 t1157 t1158 t1159 t1160 t1161 t1162 t1163 t1164 t1165 t1166 t1167 t1168 t1169 t1170) else (laws_FnExactFillLetter.j0 k true a0_0 a0_1 a0_2 a0_3 a0_4 a0_5 a0_6 a0_7 a0_8 a0_9 a0_10 a0_11 a0_12 a0_13 a0_14 a0_15 a0_16 a0_17 a0_18 a0_19 a0_20 a0_21 a0_22 a0_23 a0_24 a0_25 a0_26 a0_27 l0_28 t1142 t1143 t1144 t1145 t1146 t1147 t1148 t1149 t1150 t1151 t1152 t1153 t1154 t1155 t1156 t1157 t1158 t1159 t1160 t1161 t1162 t1163 t1164 t1165 t1166 t1167 t1168 t1169 t1170))) = some r := H
        have A16 := Aside0.mk A160
        clear A160
        replace H := Option.bind_eq_some_iff.mp H
        obtain ⟨⟨t1174, t1175⟩, A170, H⟩ := H
        replace H : (if t1174.toList = t1140.toList then (laws_FnExactFillLetter.j0 k (t1175 != t1141) a0_0 a0_1 a0_2 a0_3 a0_4 a0_5 a0_6 a0_7 a0_8 a0_9 a0_10 a0_11 a0_12 a0_13 a0_14 a0_15 a0_16 a0_17 a0_18 a0_19 a0_20 a0_21 a0_22 a0_23 a0_24 a0_25 a0_26 a0_27 l0_28 t1142 t1143 t1144 t1145 t1146 t1147 t1148 t1149 t1150 t1151 t1152 t1153 t1154 t1155 t1156 t1157 t1158 t1159 t1160 t1161 t1162 t1163 t1164 t1165 t1166 t1167 t1168 t1169 t1170) else (laws_FnExactFillLetter.j0 k true a0_0 a0_1 a0_2 a0_3 a0_4 a0_5 a0_6 a0_7 a0_8 a0_9 a0_10 a0_11 a0_12 a0_13 a0_14 a0_15 a0_16 a0_17 a0_18 a0_19 a0_20 a0_21 a0_22 a0_23 a0_24 a0_25 a0_26 a0_27 l0_28 t1142 t1143 t1144 t1145 t1146 t1147 t1148 t1149 t1150 t1151 t1152 t1153 t1154 t1155 t1156 t1157 t1158 t1159 t1160 t1161 t1162 t1163 t1164 t1165 t1166 t1167 t1168 t1169 t1170)) = some r := H
        have A17 := Aside0.mk A170
        clear A170
        have HC18 := Aside0.mk H
        clear H
        go_enter Tryd.func9, Tryd.ntmps9
        go_upto_region 12 with (first | ((with_reducible refine gate_dst (N := 5) rfl ?_); refine box_event ?hg (N := 5) ?hd (cs := #[.int .i8 a0_0, .int .i8 a0_1, .int .i8 a0_2, .int .i8 a0_3, .int .i8 a0_4, .int .i8 a0_5, .int .i8 a0_6, .int .i8 a0_7, .int .i8 a0_8, .int .i8 a0_9, .int .i8 a0_10, .int .i8 a0_11, .int .i8 a0_12, .int .i8 a0_13, .int .i8 a0_14, .int .i8 a0_15, .int .i8 a0_16, .int .i8 a0_17, .int .i8 a0_18, .int .i8 a0_19, .int .i8 a0_20, .int .i8 a0_21, .int .i8 a0_22, .int .i8 a0_23, .int .i8 a0_24, .int .i8 a0_25, .int .i8 a0_26, .int .i8 a0_27, .slice A0_28 l0_28.length c0_28]) (t := 26) ?hr ?_; (case hd => rfl); (case hg => rfl); (case hr => first | (go_simp; done) | (go_simp; rfl)); intro gb1107 hg w19 hbox hb; have n0_ := Aside0.mk (below_step (by repeat (first | (with_reducible first | exact HB.out | apply below_alloc | apply pw_below_drewN | apply below_drew1) | exact HB.out)) hb); have n1_ := Aside0.mk (hbox); have n2_ := Aside0.mk ((by rw [hg]; exact (below_size (by repeat (first | (with_reducible first | exact HB.out | apply below_alloc | apply pw_below_drewN | apply below_drew1) | exact HB.out))) : w.heap.size ≤ gb1107)); have n3_ := Aside0.mk ((by rw [hg]; exact (below_size (by repeat (first | (with_reducible first | exact HB.out | apply below_alloc | apply pw_below_drewN | apply below_drew1) | exact HB.out))) : w.heap.size ≤ gb1107)); clear HB; have HB := n0_; have BK1107 := n1_; have GW1107 := n2_; have GE1107 := n3_; clear n0_ n1_ n2_ n3_; clear hb hbox hg) | ((with_reducible refine gate_dst (N := 23) rfl ?_); refine wpList_load_mid rfl 26 (.tmp 5) rfl gb1107 0 rfl [.int .i8 a0_0, .int .i8 a0_1, .int .i8 a0_2, .int .i8 a0_3, .int .i8 a0_4, .int .i8 a0_5, .int .i8 a0_6, .int .i8 a0_7, .int .i8 a0_8, .int .i8 a0_9, .int .i8 a0_10, .int .i8 a0_11, .int .i8 a0_12, .int .i8 a0_13, .int .i8 a0_14, .int .i8 a0_15, .int .i8 a0_16, .int .i8 a0_17, .int .i8 a0_18, .int .i8 a0_19, .int .i8 a0_20, .int .i8 a0_21, .int .i8 a0_22, .int .i8 a0_23, .int .i8 a0_24, .int .i8 a0_25, .int .i8 a0_26, .int .i8 a0_27, .slice A0_28 l0_28.length c0_28] _ (range_partx_ [] [.int .i8 a0_0, .int .i8 a0_1, .int .i8 a0_2, .int .i8 a0_3, .int .i8 a0_4, .int .i8 a0_5, .int .i8 a0_6, .int .i8 a0_7, .int .i8 a0_8, .int .i8 a0_9, .int .i8 a0_10, .int .i8 a0_11, .int .i8 a0_12, .int .i8 a0_13, .int .i8 a0_14, .int .i8 a0_15, .int .i8 a0_16, .int .i8 a0_17, .int .i8 a0_18, .int .i8 a0_19, .int .i8 a0_20, .int .i8 a0_21, .int .i8 a0_22, .int .i8 a0_23, .int .i8 a0_24, .int .i8 a0_25, .int .i8 a0_26, .int .i8 a0_27, .slice A0_28 l0_28.length c0_28] [] 0 rfl (by (with_reducible repeat (first | refine blk_drewN ?_ _ | refine blk_drew ?_ | refine blk_alloc ?_ _)); exact BK1107.out)) Tryd.underlying26 rfl (by exact (show (Tryd.prog.info? 26).map (·.size) = some 29 by kernel_rfl)) ?_) | ((with_reducible refine gate_callee (f := 18) rfl ?_); refine goesL_ (some 25) rfl rfl Tryd.func18 (by kernel_rfl) rfl #[.agg #[.int .i8 a0_0, .int .i8 a0_1, .int .i8 a0_2, .int .i8 a0_3, .int .i8 a0_4, .int .i8 a0_5, .int .i8 a0_6, .int .i8 a0_7, .int .i8 a0_8, .int .i8 a0_9, .int .i8 a0_10, .int .i8 a0_11, .int .i8 a0_12, .int .i8 a0_13, .int .i8 a0_14, .int .i8 a0_15, .int .i8 a0_16, .int .i8 a0_17, .int .i8 a0_18, .int .i8 a0_19, .int .i8 a0_20, .int .i8 a0_21, .int .i8 a0_22, .int .i8 a0_23, .int .i8 a0_24, .int .i8 a0_25, .int .i8 a0_26, .int .i8 a0_27, .slice A0_28 l0_28.length c0_28], .int .i64 1048576] rfl (by (try simp only [List.map_toArray, List.map_cons, List.map_nil]); first | done | rfl | (simp only [List.length_drop, List.length_take]; rfl)) ?_; (with_reducible refine (laws_szFace.calls a0_0 a0_1 a0_2 a0_3 a0_4 a0_5 a0_6 a0_7 a0_8 a0_9 a0_10 a0_11 a0_12 a0_13 a0_14 a0_15 a0_16 a0_17 a0_18 a0_19 a0_20 a0_21 a0_22 a0_23 a0_24 a0_25 a0_26 a0_27 _ _ l0_28 1048576 t1108 _ ?side1 ?side2 A10.out).mono ?_); (case side1 => repeat (first | exact (Kd.C_below HR0_28.out HB.out) | (with_reducible refine Kd.C_alloc ?_ _) | (with_reducible refine Kd.C_drewN ?_ _) | (with_reducible refine Kd.C_drew ?_))); (case side2 => exact HC0_28.out); rintro e w20 ⟨rfl, hb⟩; refine ⟨_, rfl, ?_⟩; have n0_ := Aside0.mk (blk_below (g := gb1107) (o := .cells #[.int .i8 a0_0, .int .i8 a0_1, .int .i8 a0_2, .int .i8 a0_3, .int .i8 a0_4, .int .i8 a0_5, .int .i8 a0_6, .int .i8 a0_7, .int .i8 a0_8, .int .i8 a0_9, .int .i8 a0_10, .int .i8 a0_11, .int .i8 a0_12, .int .i8 a0_13, .int .i8 a0_14, .int .i8 a0_15, .int .i8 a0_16, .int .i8 a0_17, .int .i8 a0_18, .int .i8 a0_19, .int .i8 a0_20, .int .i8 a0_21, .int .i8 a0_22, .int .i8 a0_23, .int .i8 a0_24, .int .i8 a0_25, .int .i8 a0_26, .int .i8 a0_27, .slice A0_28 l0_28.length c0_28] 26 (0, 0)) (by (with_reducible repeat (first | refine blk_drewN ?_ _ | refine blk_drew ?_ | refine blk_alloc ?_ _)); exact BK1107.out) hb); have n1_ := Aside0.mk (below_step (by repeat (first | (with_reducible first | exact HB.out | apply below_alloc | apply pw_below_drewN | apply below_drew1 | refine below_set ?_ GE1107.out) | exact HB.out)) hb); clear BK1107; clear HB; have BK1107 := n0_; have HB := n1_; clear n0_ n1_; (try clear hb); (try clear hb2); (try clear hk); (try clear hi)) | ((with_reducible refine gate_dst (N := 29) rfl ?_); refine wpList_load_mid rfl 26 (.tmp 5) rfl gb1107 0 rfl [.int .i8 a0_0, .int .i8 a0_1, .int .i8 a0_2, .int .i8 a0_3, .int .i8 a0_4, .int .i8 a0_5, .int .i8 a0_6, .int .i8 a0_7, .int .i8 a0_8, .int .i8 a0_9, .int .i8 a0_10, .int .i8 a0_11, .int .i8 a0_12, .int .i8 a0_13, .int .i8 a0_14, .int .i8 a0_15, .int .i8 a0_16, .int .i8 a0_17, .int .i8 a0_18, .int .i8 a0_19, .int .i8 a0_20, .int .i8 a0_21, .int .i8 a0_22, .int .i8 a0_23, .int .i8 a0_24, .int .i8 a0_25, .int .i8 a0_26, .int .i8 a0_27, .slice A0_28 l0_28.length c0_28] _ (range_partx_ [] [.int .i8 a0_0, .int .i8 a0_1, .int .i8 a0_2, .int .i8 a0_3, .int .i8 a0_4, .int .i8 a0_5, .int .i8 a0_6, .int .i8 a0_7, .int .i8 a0_8, .int .i8 a0_9, .int .i8 a0_10, .int .i8 a0_11, .int .i8 a0_12, .int .i8 a0_13, .int .i8 a0_14, .int .i8 a0_15, .int .i8 a0_16, .int .i8 a0_17, .int .i8 a0_18, .int .i8 a0_19, .int .i8 a0_20, .int .i8 a0_21, .int .i8 a0_22, .int .i8 a0_23, .int .i8 a0_24, .int .i8 a0_25, .int .i8 a0_26, .int .i8 a0_27, .slice A0_28 l0_28.length c0_28] [] 0 rfl (by (with_reducible repeat (first | refine blk_drewN ?_ _ | refine blk_drew ?_ | refine blk_alloc ?_ _)); exact BK1107.out)) Tryd.underlying26 rfl (by exact (show (Tryd.prog.info? 26).map (·.size) = some 29 by kernel_rfl)) ?_) | ((with_reducible refine gate_callee (f := 20) rfl ?_); refine goesL_ (some 30) rfl rfl Tryd.func20 (by kernel_rfl) rfl #[.agg #[.int .i8 a0_0, .int .i8 a0_1, .int .i8 a0_2, .int .i8 a0_3, .int .i8 a0_4, .int .i8 a0_5, .int .i8 a0_6, .int .i8 a0_7, .int .i8 a0_8, .int .i8 a0_9, .int .i8 a0_10, .int .i8 a0_11, .int .i8 a0_12, .int .i8 a0_13, .int .i8 a0_14, .int .i8 a0_15, .int .i8 a0_16, .int .i8 a0_17, .int .i8 a0_18, .int .i8 a0_19, .int .i8 a0_20, .int .i8 a0_21, .int .i8 a0_22, .int .i8 a0_23, .int .i8 a0_24, .int .i8 a0_25, .int .i8 a0_26, .int .i8 a0_27, .slice A0_28 l0_28.length c0_28]] rfl (by (try simp only [List.map_toArray, List.map_cons, List.map_nil]); first | done | rfl | (simp only [List.length_drop, List.length_take]; rfl)) ?_; (with_reducible refine (laws_toFace.calls a0_0 a0_1 a0_2 a0_3 a0_4 a0_5 a0_6 a0_7 a0_8 a0_9 a0_10 a0_11 a0_12 a0_13 a0_14 a0_15 a0_16 a0_17 a0_18 a0_19 a0_20 a0_21 a0_22 a0_23 a0_24 a0_25 a0_26 a0_27 _ _ l0_28 t1109 t1110 t1111 t1112 t1113 t1114 t1115 t1116 t1117 t1118 t1119 t1120 t1121 t1122 t1123 t1124 t1125 t1126 t1127 t1128 t1129 t1130 t1131 t1132 t1133 t1134 t1135 t1136 t1137 _ ?side1 ?side2 A14.out).mono ?_); (case side1 => repeat (first | exact (Kd.C_below HR0_28.out HB.out) | (with_reducible refine Kd.C_alloc ?_ _) | (with_reducible refine Kd.C_drewN ?_ _) | (with_reducible refine Kd.C_drew ?_))); (case side2 => exact HC0_28.out); rintro e w21 ⟨v1138, rfl, ho0, hb⟩; refine ⟨_, rfl, ?_⟩; have n0_ := Aside0.mk (Kd.R_lower ho0 (below_size (by repeat (first | (with_reducible first | exact HB.out | apply below_alloc | apply pw_below_drewN | apply below_drew1 | refine below_set ?_ GE1107.out) | exact HB.out)))); have n1_ := Aside0.mk (blk_below (g := gb1107) (o := .cells #[.int .i8 a0_0, .int .i8 a0_1, .int .i8 a0_2, .int .i8 a0_3, .int .i8 a0_4, .int .i8 a0_5, .int .i8 a0_6, .int .i8 a0_7, .int .i8 a0_8, .int .i8 a0_9, .int .i8 a0_10, .int .i8 a0_11, .int .i8 a0_12, .int .i8 a0_13, .int .i8 a0_14, .int .i8 a0_15, .int .i8 a0_16, .int .i8 a0_17, .int .i8 a0_18, .int .i8 a0_19, .int .i8 a0_20, .int .i8 a0_21, .int .i8 a0_22, .int .i8 a0_23, .int .i8 a0_24, .int .i8 a0_25, .int .i8 a0_26, .int .i8 a0_27, .slice A0_28 l0_28.length c0_28] 26 (0, 0)) (by (with_reducible repeat (first | refine blk_drewN ?_ _ | refine blk_drew ?_ | refine blk_alloc ?_ _)); exact BK1107.out) hb); have n2_ := Aside0.mk (below_step (by repeat (first | (with_reducible first | exact HB.out | apply below_alloc | apply pw_below_drewN | apply below_drew1 | refine below_set ?_ GE1107.out) | exact HB.out)) hb); clear BK1107; clear HB; have HO1139 := n0_; have BK1107 := n1_; have HB := n2_; clear n0_ n1_ n2_; (try clear hb); (try clear hb2); (try clear hk); (try clear hi); (try clear ho0); obtain ⟨Ao22, co22, eo22⟩ := Kd.R_slice HO1139.out; subst eo22) | ((with_reducible refine gate_callee (f := 37) rfl ?_); refine goesL_ (some 35) rfl rfl Tryd.func37 (by kernel_rfl) rfl #[.agg #[.int .i8 t1109, .int .i8 t1110, .int .i8 t1111, .int .i8 t1112, .int .i8 t1113, .int .i8 t1114, .int .i8 t1115, .int .i8 t1116, .int .i8 t1117, .int .i8 t1118, .int .i8 t1119, .int .i8 t1120, .int .i8 t1121, .int .i8 t1122, .int .i8 t1123, .int .i8 t1124, .int .i8 t1125, .int .i8 t1126, .int .i8 t1127, .int .i8 t1128, .int .i8 t1129, .int .i8 t1130, .int .i8 t1131, .int .i8 t1132, .int .i8 t1133, .int .i8 t1134, .int .i8 t1135, .int .i8 t1136, .slice Ao22 t1137.length co22], .string a1, .string a2, .int .i64 a3, .int .i64 a4] rfl (by (try simp only [List.map_toArray, List.map_cons, List.map_nil]); first | done | rfl | (simp only [List.length_drop, List.length_take]; rfl)) ?_; (with_reducible refine (spec_FillLetter.calls k t1109 t1110 t1111 t1112 t1113 t1114 t1115 t1116 t1117 t1118 t1119 t1120 t1121 t1122 t1123 t1124 t1125 t1126 t1127 t1128 t1129 t1130 t1131 t1132 t1133 t1134 t1135 t1136 _ _ t1137 a1 a2 a3 a4 t1140 t1141 _ ?side1 ?side2 A15.out).mono ?_); (case side1 => repeat (first | exact (Kd.R_reads' HO1139.out).2.2 | (with_reducible refine Kd.C_alloc ?_ _) | (with_reducible refine Kd.C_drewN ?_ _) | (with_reducible refine Kd.C_drew ?_))); (case side2 => exact (Kd.R_reads' HO1139.out).2.1); rintro e w23 ⟨rfl, hb⟩; refine ⟨_, rfl, ?_⟩; have n0_ := Aside0.mk (Kd.R_below (by (with_reducible repeat (first | apply Kd.R_alloc | apply Kd.R_drewN | apply Kd.R_drew)); exact HO1139.out) hb); have n1_ := Aside0.mk (blk_below (g := gb1107) (o := .cells #[.int .i8 a0_0, .int .i8 a0_1, .int .i8 a0_2, .int .i8 a0_3, .int .i8 a0_4, .int .i8 a0_5, .int .i8 a0_6, .int .i8 a0_7, .int .i8 a0_8, .int .i8 a0_9, .int .i8 a0_10, .int .i8 a0_11, .int .i8 a0_12, .int .i8 a0_13, .int .i8 a0_14, .int .i8 a0_15, .int .i8 a0_16, .int .i8 a0_17, .int .i8 a0_18, .int .i8 a0_19, .int .i8 a0_20, .int .i8 a0_21, .int .i8 a0_22, .int .i8 a0_23, .int .i8 a0_24, .int .i8 a0_25, .int .i8 a0_26, .int .i8 a0_27, .slice A0_28 l0_28.length c0_28] 26 (0, 0)) (by (with_reducible repeat (first | refine blk_drewN ?_ _ | refine blk_drew ?_ | refine blk_alloc ?_ _)); exact BK1107.out) hb); have n2_ := Aside0.mk (below_step (by repeat (first | (with_reducible first | exact HB.out | apply below_alloc | apply pw_below_drewN | apply below_drew1 | refine below_set ?_ GE1107.out) | exact HB.out)) hb); clear HO1139; clear BK1107; clear HB; have HO1139 := n0_; have BK1107 := n1_; have HB := n2_; clear n0_ n1_ n2_; (try clear hb); (try clear hb2); (try clear hk); (try clear hi)) | ((with_reducible refine gate_dst (N := 38) rfl ?_); refine wpList_load_mid rfl 26 (.tmp 5) rfl gb1107 0 rfl [.int .i8 a0_0, .int .i8 a0_1, .int .i8 a0_2, .int .i8 a0_3, .int .i8 a0_4, .int .i8 a0_5, .int .i8 a0_6, .int .i8 a0_7, .int .i8 a0_8, .int .i8 a0_9, .int .i8 a0_10, .int .i8 a0_11, .int .i8 a0_12, .int .i8 a0_13, .int .i8 a0_14, .int .i8 a0_15, .int .i8 a0_16, .int .i8 a0_17, .int .i8 a0_18, .int .i8 a0_19, .int .i8 a0_20, .int .i8 a0_21, .int .i8 a0_22, .int .i8 a0_23, .int .i8 a0_24, .int .i8 a0_25, .int .i8 a0_26, .int .i8 a0_27, .slice A0_28 l0_28.length c0_28] _ (range_partx_ [] [.int .i8 a0_0, .int .i8 a0_1, .int .i8 a0_2, .int .i8 a0_3, .int .i8 a0_4, .int .i8 a0_5, .int .i8 a0_6, .int .i8 a0_7, .int .i8 a0_8, .int .i8 a0_9, .int .i8 a0_10, .int .i8 a0_11, .int .i8 a0_12, .int .i8 a0_13, .int .i8 a0_14, .int .i8 a0_15, .int .i8 a0_16, .int .i8 a0_17, .int .i8 a0_18, .int .i8 a0_19, .int .i8 a0_20, .int .i8 a0_21, .int .i8 a0_22, .int .i8 a0_23, .int .i8 a0_24, .int .i8 a0_25, .int .i8 a0_26, .int .i8 a0_27, .slice A0_28 l0_28.length c0_28] [] 0 rfl (by (with_reducible repeat (first | refine blk_drewN ?_ _ | refine blk_drew ?_ | refine blk_alloc ?_ _)); exact BK1107.out)) Tryd.underlying26 rfl (by exact (show (Tryd.prog.info? 26).map (·.size) = some 29 by kernel_rfl)) ?_) | ((with_reducible refine gate_callee (f := 20) rfl ?_); refine goesL_ (some 39) rfl rfl Tryd.func20 (by kernel_rfl) rfl #[.agg #[.int .i8 a0_0, .int .i8 a0_1, .int .i8 a0_2, .int .i8 a0_3, .int .i8 a0_4, .int .i8 a0_5, .int .i8 a0_6, .int .i8 a0_7, .int .i8 a0_8, .int .i8 a0_9, .int .i8 a0_10, .int .i8 a0_11, .int .i8 a0_12, .int .i8 a0_13, .int .i8 a0_14, .int .i8 a0_15, .int .i8 a0_16, .int .i8 a0_17, .int .i8 a0_18, .int .i8 a0_19, .int .i8 a0_20, .int .i8 a0_21, .int .i8 a0_22, .int .i8 a0_23, .int .i8 a0_24, .int .i8 a0_25, .int .i8 a0_26, .int .i8 a0_27, .slice A0_28 l0_28.length c0_28]] rfl (by (try simp only [List.map_toArray, List.map_cons, List.map_nil]); first | done | rfl | (simp only [List.length_drop, List.length_take]; rfl)) ?_; (with_reducible refine (laws_toFace.calls a0_0 a0_1 a0_2 a0_3 a0_4 a0_5 a0_6 a0_7 a0_8 a0_9 a0_10 a0_11 a0_12 a0_13 a0_14 a0_15 a0_16 a0_17 a0_18 a0_19 a0_20 a0_21 a0_22 a0_23 a0_24 a0_25 a0_26 a0_27 _ _ l0_28 t1142 t1143 t1144 t1145 t1146 t1147 t1148 t1149 t1150 t1151 t1152 t1153 t1154 t1155 t1156 t1157 t1158 t1159 t1160 t1161 t1162 t1163 t1164 t1165 t1166 t1167 t1168 t1169 t1170 _ ?side1 ?side2 A16.out).mono ?_); (case side1 => repeat (first | exact (Kd.C_below HR0_28.out HB.out) | (with_reducible refine Kd.C_alloc ?_ _) | (with_reducible refine Kd.C_drewN ?_ _) | (with_reducible refine Kd.C_drew ?_))); (case side2 => exact HC0_28.out); rintro e w24 ⟨v1171, rfl, ho0, hb⟩; refine ⟨_, rfl, ?_⟩; have n0_ := Aside0.mk (Kd.R_elder' (by (with_reducible repeat (first | apply Kd.R_alloc | apply Kd.R_drewN | apply Kd.R_drew)); exact HO1139.out) (Kd.R_base ho0) hb); have n1_ := Aside0.mk (Kd.R_lower (Kd.R_new' ho0 (Kd.R_lt (by (with_reducible repeat (first | apply Kd.R_alloc | apply Kd.R_drewN | apply Kd.R_drew)); exact HO1139.out))) (below_size (by repeat (first | (with_reducible first | exact HB.out | apply below_alloc | apply pw_below_drewN | apply below_drew1 | refine below_set ?_ GE1107.out) | exact HB.out)))); have n2_ := Aside0.mk (blk_below (g := gb1107) (o := .cells #[.int .i8 a0_0, .int .i8 a0_1, .int .i8 a0_2, .int .i8 a0_3, .int .i8 a0_4, .int .i8 a0_5, .int .i8 a0_6, .int .i8 a0_7, .int .i8 a0_8, .int .i8 a0_9, .int .i8 a0_10, .int .i8 a0_11, .int .i8 a0_12, .int .i8 a0_13, .int .i8 a0_14, .int .i8 a0_15, .int .i8 a0_16, .int .i8 a0_17, .int .i8 a0_18, .int .i8 a0_19, .int .i8 a0_20, .int .i8 a0_21, .int .i8 a0_22, .int .i8 a0_23, .int .i8 a0_24, .int .i8 a0_25, .int .i8 a0_26, .int .i8 a0_27, .slice A0_28 l0_28.length c0_28] 26 (0, 0)) (by (with_reducible repeat (first | refine blk_drewN ?_ _ | refine blk_drew ?_ | refine blk_alloc ?_ _)); exact BK1107.out) hb); have n3_ := Aside0.mk (below_step (by repeat (first | (with_reducible first | exact HB.out | apply below_alloc | apply pw_below_drewN | apply below_drew1 | refine below_set ?_ GE1107.out) | exact HB.out)) hb); clear HO1139; clear BK1107; clear HB; have HO1139 := n0_; have HO1172 := n1_; have BK1107 := n2_; have HB := n3_; clear n0_ n1_ n2_ n3_; (try clear hb); (try clear hb2); (try clear hk); (try clear hi); (try clear ho0)) | ((with_reducible refine gate_dst (N := 14) rfl ?_); refine box_event ?hg (N := 14) ?hd (cs := #[.int .i8 0, .int .i8 0, .int .i8 0, .int .i8 0, .int .i8 0, .int .i8 0, .int .i8 0, .int .i8 0, .int .i8 0, .int .i8 0, .int .i8 0, .int .i8 0, .int .i8 0, .int .i8 0, .int .i8 0, .int .i8 0, .int .i8 0, .int .i8 0, .int .i8 0, .int .i8 0, .int .i8 0, .int .i8 0, .int .i8 0, .int .i8 0, .int .i8 0, .int .i8 0, .int .i8 0, .int .i8 0, .slice none 0 0]) (t := 32) ?hr ?_; (case hd => rfl); (case hg => rfl); (case hr => first | (go_simp; done) | (go_simp; rfl)); intro gb1173 hg w25 hbox hb; have n0_ := Aside0.mk (Kd.R_below (by (with_reducible repeat (first | apply Kd.R_alloc | apply Kd.R_drewN | apply Kd.R_drew)); exact HO1139.out) hb); have n1_ := Aside0.mk (Kd.R_below (by (with_reducible repeat (first | apply Kd.R_alloc | apply Kd.R_drewN | apply Kd.R_drew)); exact HO1172.out) hb); have n2_ := Aside0.mk (blk_below (g := gb1107) (o := .cells #[.int .i8 a0_0, .int .i8 a0_1, .int .i8 a0_2, .int .i8 a0_3, .int .i8 a0_4, .int .i8 a0_5, .int .i8 a0_6, .int .i8 a0_7, .int .i8 a0_8, .int .i8 a0_9, .int .i8 a0_10, .int .i8 a0_11, .int .i8 a0_12, .int .i8 a0_13, .int .i8 a0_14, .int .i8 a0_15, .int .i8 a0_16, .int .i8 a0_17, .int .i8 a0_18, .int .i8 a0_19, .int .i8 a0_20, .int .i8 a0_21, .int .i8 a0_22, .int .i8 a0_23, .int .i8 a0_24, .int .i8 a0_25, .int .i8 a0_26, .int .i8 a0_27, .slice A0_28 l0_28.length c0_28] 26 (0, 0)) (by (with_reducible repeat (first | refine blk_drewN ?_ _ | refine blk_drew ?_ | refine blk_alloc ?_ _)); exact BK1107.out) hb); have n3_ := Aside0.mk (below_step (by repeat (first | (with_reducible first | exact HB.out | apply below_alloc | apply pw_below_drewN | apply below_drew1 | refine below_set ?_ GE1107.out) | exact HB.out)) hb); have n4_ := Aside0.mk (hbox); have n5_ := Aside0.mk ((by rw [hg]; exact (below_size (by repeat (first | (with_reducible first | exact HB.out | apply below_alloc | apply pw_below_drewN | apply below_drew1 | refine below_set ?_ GE1107.out) | exact HB.out))) : w.heap.size ≤ gb1173)); have n6_ := Aside0.mk ((by rw [hg]; exact (below_size (by repeat (first | (with_reducible first | exact HB.out | apply below_alloc | apply pw_below_drewN | apply below_drew1 | refine below_set ?_ GE1107.out) | exact HB.out))) : w.heap.size ≤ gb1173)); have n7_ := Aside0.mk ((by rw [hg]; exact Nat.ne_of_lt (blk_lt (g := gb1107) (o := .cells #[.int .i8 a0_0, .int .i8 a0_1, .int .i8 a0_2, .int .i8 a0_3, .int .i8 a0_4, .int .i8 a0_5, .int .i8 a0_6, .int .i8 a0_7, .int .i8 a0_8, .int .i8 a0_9, .int .i8 a0_10, .int .i8 a0_11, .int .i8 a0_12, .int .i8 a0_13, .int .i8 a0_14, .int .i8 a0_15, .int .i8 a0_16, .int .i8 a0_17, .int .i8 a0_18, .int .i8 a0_19, .int .i8 a0_20, .int .i8 a0_21, .int .i8 a0_22, .int .i8 a0_23, .int .i8 a0_24, .int .i8 a0_25, .int .i8 a0_26, .int .i8 a0_27, .slice A0_28 l0_28.length c0_28] 26 (0, 0)) (by (with_reducible repeat (first | refine blk_drewN ?_ _ | refine blk_drew ?_ | refine blk_alloc ?_ _)); exact BK1107.out)) : gb1107 ≠ gb1173)); have n8_ := Aside0.mk ((by rw [hg]; exact Nat.ne_of_gt (blk_lt (g := gb1107) (o := .cells #[.int .i8 a0_0, .int .i8 a0_1, .int .i8 a0_2, .int .i8 a0_3, .int .i8 a0_4, .int .i8 a0_5, .int .i8 a0_6, .int .i8 a0_7, .int .i8 a0_8, .int .i8 a0_9, .int .i8 a0_10, .int .i8 a0_11, .int .i8 a0_12, .int .i8 a0_13, .int .i8 a0_14, .int .i8 a0_15, .int .i8 a0_16, .int .i8 a0_17, .int .i8 a0_18, .int .i8 a0_19, .int .i8 a0_20, .int .i8 a0_21, .int .i8 a0_22, .int .i8 a0_23, .int .i8 a0_24, .int .i8 a0_25, .int .i8 a0_26, .int .i8 a0_27, .slice A0_28 l0_28.length c0_28] 26 (0, 0)) (by (with_reducible repeat (first | refine blk_drewN ?_ _ | refine blk_drew ?_ | refine blk_alloc ?_ _)); exact BK1107.out)) : gb1173 ≠ gb1107)); clear HO1139; clear HO1172; clear BK1107; clear HB; have HO1139 := n0_; have HO1172 := n1_; have BK1107 := n2_; have HB := n3_; have BK1173 := n4_; have GW1173 := n5_; have GE1173 := n6_; have NB1107_1173 := n7_; have NB1173_1107 := n8_; clear n0_ n1_ n2_ n3_ n4_ n5_ n6_ n7_ n8_; clear hb hbox hg; obtain ⟨Ao26, co26, eo26⟩ := Kd.R_slice HO1172.out; subst eo26) | ((with_reducible refine gate_store (t := 32) (p := 14) rfl ?_); refine ev_store_partx_ rfl 32 (.tmp 14) (.tmp 39) rfl rfl gb1173 0 [] [.int .i8 0, .int .i8 0, .int .i8 0, .int .i8 0, .int .i8 0, .int .i8 0, .int .i8 0, .int .i8 0, .int .i8 0, .int .i8 0, .int .i8 0, .int .i8 0, .int .i8 0, .int .i8 0, .int .i8 0, .int .i8 0, .int .i8 0, .int .i8 0, .int .i8 0, .int .i8 0, .int .i8 0, .int .i8 0, .int .i8 0, .int .i8 0, .int .i8 0, .int .i8 0, .int .i8 0, .int .i8 0, .slice none 0 0] [.int .i8 t1142, .int .i8 t1143, .int .i8 t1144, .int .i8 t1145, .int .i8 t1146, .int .i8 t1147, .int .i8 t1148, .int .i8 t1149, .int .i8 t1150, .int .i8 t1151, .int .i8 t1152, .int .i8 t1153, .int .i8 t1154, .int .i8 t1155, .int .i8 t1156, .int .i8 t1157, .int .i8 t1158, .int .i8 t1159, .int .i8 t1160, .int .i8 t1161, .int .i8 t1162, .int .i8 t1163, .int .i8 t1164, .int .i8 t1165, .int .i8 t1166, .int .i8 t1167, .int .i8 t1168, .int .i8 t1169, .slice Ao26 t1170.length co26] [] rfl rfl 32 rfl rfl (by (with_reducible repeat (first | refine blk_drewN ?_ _ | refine blk_drew ?_ | refine blk_alloc ?_ _)); exact BK1173.out) (by exact (show (Tryd.prog.info? 32).map (·.size) = some 29 by kernel_rfl)) rfl ?_; intro w27 hblk hkep hbel; have n0_ := Aside0.mk ((show w27.heap[gb1173]? = some (.cells #[.int .i8 t1142, .int .i8 t1143, .int .i8 t1144, .int .i8 t1145, .int .i8 t1146, .int .i8 t1147, .int .i8 t1148, .int .i8 t1149, .int .i8 t1150, .int .i8 t1151, .int .i8 t1152, .int .i8 t1153, .int .i8 t1154, .int .i8 t1155, .int .i8 t1156, .int .i8 t1157, .int .i8 t1158, .int .i8 t1159, .int .i8 t1160, .int .i8 t1161, .int .i8 t1162, .int .i8 t1163, .int .i8 t1164, .int .i8 t1165, .int .i8 t1166, .int .i8 t1167, .int .i8 t1168, .int .i8 t1169, .slice Ao26 t1170.length co26] 32 (0, 0)) from hblk)); have n1_ := Aside0.mk (blk_kept (by (with_reducible repeat (first | refine blk_drewN ?_ _ | refine blk_drew ?_ | refine blk_alloc ?_ _)); exact BK1107.out) hkep (fun e_ => NB1107_1173.out e_)); have n2_ := Aside0.mk (Kd.R_mono (Kd.R_kept (Kd.R_types (by (with_reducible repeat (first | apply Kd.R_alloc | apply Kd.R_drewN | apply Kd.R_drew)); exact HO1139.out) (by (with_reducible repeat (first | refine blk_drewN ?_ _ | refine blk_drew ?_ | refine blk_alloc ?_ _)); exact BK1173.out) (by decide)) hkep (fun k_ hk e_ => hk.2 e_)) (fun k_ hk => hk.1)); have n3_ := Aside0.mk (Kd.R_mono (Kd.R_kept (Kd.R_types (by (with_reducible repeat (first | apply Kd.R_alloc | apply Kd.R_drewN | apply Kd.R_drew)); exact HO1172.out) (by (with_reducible repeat (first | refine blk_drewN ?_ _ | refine blk_drew ?_ | refine blk_alloc ?_ _)); exact BK1173.out) (by decide)) hkep (fun k_ hk e_ => hk.2 e_)) (fun k_ hk => hk.1)); have n4_ := Aside0.mk ((show Below w.heap.size w w27 from Below.trans (by repeat (first | (with_reducible first | exact HB.out | apply below_alloc | apply pw_below_drewN | apply below_drew1 | refine below_set ?_ GE1107.out | refine below_set ?_ GE1173.out) | exact HB.out)) (hbel _ GW1173.out))); clear BK1173; clear BK1107; clear HO1139; clear HO1172; clear HB; have BK1173 := n0_; have BK1107 := n1_; have HO1139 := n2_; have HO1172 := n3_; have HB := n4_; clear n0_ n1_ n2_ n3_ n4_; clear hblk hkep hbel) | ((with_reducible refine gate_dst (N := 41) rfl ?_); refine wpList_load_mid rfl 32 (.tmp 14) rfl gb1173 0 rfl [.int .i8 t1142, .int .i8 t1143, .int .i8 t1144, .int .i8 t1145, .int .i8 t1146, .int .i8 t1147, .int .i8 t1148, .int .i8 t1149, .int .i8 t1150, .int .i8 t1151, .int .i8 t1152, .int .i8 t1153, .int .i8 t1154, .int .i8 t1155, .int .i8 t1156, .int .i8 t1157, .int .i8 t1158, .int .i8 t1159, .int .i8 t1160, .int .i8 t1161, .int .i8 t1162, .int .i8 t1163, .int .i8 t1164, .int .i8 t1165, .int .i8 t1166, .int .i8 t1167, .int .i8 t1168, .int .i8 t1169, .slice Ao26 t1170.length co26] _ (range_partx_ [] [.int .i8 t1142, .int .i8 t1143, .int .i8 t1144, .int .i8 t1145, .int .i8 t1146, .int .i8 t1147, .int .i8 t1148, .int .i8 t1149, .int .i8 t1150, .int .i8 t1151, .int .i8 t1152, .int .i8 t1153, .int .i8 t1154, .int .i8 t1155, .int .i8 t1156, .int .i8 t1157, .int .i8 t1158, .int .i8 t1159, .int .i8 t1160, .int .i8 t1161, .int .i8 t1162, .int .i8 t1163, .int .i8 t1164, .int .i8 t1165, .int .i8 t1166, .int .i8 t1167, .int .i8 t1168, .int .i8 t1169, .slice Ao26 t1170.length co26] [] 0 rfl (by (with_reducible repeat (first | refine blk_drewN ?_ _ | refine blk_drew ?_ | refine blk_alloc ?_ _)); exact BK1173.out)) Tryd.underlying32 rfl (by exact (show (Tryd.prog.info? 32).map (·.size) = some 29 by kernel_rfl)) ?_) | ((with_reducible refine gate_callee (f := 38) rfl ?_); refine goesL_ (some 46) rfl rfl Tryd.func38 (by kernel_rfl) rfl #[.agg #[.int .i8 t1142, .int .i8 t1143, .int .i8 t1144, .int .i8 t1145, .int .i8 t1146, .int .i8 t1147, .int .i8 t1148, .int .i8 t1149, .int .i8 t1150, .int .i8 t1151, .int .i8 t1152, .int .i8 t1153, .int .i8 t1154, .int .i8 t1155, .int .i8 t1156, .int .i8 t1157, .int .i8 t1158, .int .i8 t1159, .int .i8 t1160, .int .i8 t1161, .int .i8 t1162, .int .i8 t1163, .int .i8 t1164, .int .i8 t1165, .int .i8 t1166, .int .i8 t1167, .int .i8 t1168, .int .i8 t1169, .slice Ao26 t1170.length co26], .string a1, .string a2, .int .i64 a3, .int .i64 a4] rfl (by (try simp only [List.map_toArray, List.map_cons, List.map_nil]); first | done | rfl | (simp only [List.length_drop, List.length_take]; rfl)) ?_; (with_reducible refine (impl_FillLetter.calls k t1142 t1143 t1144 t1145 t1146 t1147 t1148 t1149 t1150 t1151 t1152 t1153 t1154 t1155 t1156 t1157 t1158 t1159 t1160 t1161 t1162 t1163 t1164 t1165 t1166 t1167 t1168 t1169 _ _ t1170 a1 a2 a3 a4 t1174 t1175 _ ?side1 ?side2 ?sideG A17.out).mono ?_); (case sideG => first | exact HG.out.below (by repeat (first | (with_reducible first | exact HB.out | apply below_alloc | apply pw_below_drewN | apply below_drew1) | exact HB.out)) | exact (HG.out.below (by repeat (first | (with_reducible first | exact HB.out | apply below_alloc | apply pw_below_drewN | apply below_drew1) | exact HB.out))).toM); (case side1 => repeat (first | exact (Kd.R_reads' HO1172.out).2.2 | (with_reducible refine Kd.C_alloc ?_ _) | (with_reducible refine Kd.C_drewN ?_ _) | (with_reducible refine Kd.C_drew ?_))); (case side2 => exact (Kd.R_reads' HO1172.out).2.1); rintro e w28 ⟨rfl, hb⟩; refine ⟨_, rfl, ?_⟩; have n0_ := Aside0.mk (Kd.R_below (by (with_reducible repeat (first | apply Kd.R_alloc | apply Kd.R_drewN | apply Kd.R_drew)); exact HO1139.out) hb); have n1_ := Aside0.mk (Kd.R_below (by (with_reducible repeat (first | apply Kd.R_alloc | apply Kd.R_drewN | apply Kd.R_drew)); exact HO1172.out) hb); have n2_ := Aside0.mk (blk_below (g := gb1107) (o := .cells #[.int .i8 a0_0, .int .i8 a0_1, .int .i8 a0_2, .int .i8 a0_3, .int .i8 a0_4, .int .i8 a0_5, .int .i8 a0_6, .int .i8 a0_7, .int .i8 a0_8, .int .i8 a0_9, .int .i8 a0_10, .int .i8 a0_11, .int .i8 a0_12, .int .i8 a0_13, .int .i8 a0_14, .int .i8 a0_15, .int .i8 a0_16, .int .i8 a0_17, .int .i8 a0_18, .int .i8 a0_19, .int .i8 a0_20, .int .i8 a0_21, .int .i8 a0_22, .int .i8 a0_23, .int .i8 a0_24, .int .i8 a0_25, .int .i8 a0_26, .int .i8 a0_27, .slice A0_28 l0_28.length c0_28] 26 (0, 0)) (by (with_reducible repeat (first | refine blk_drewN ?_ _ | refine blk_drew ?_ | refine blk_alloc ?_ _)); exact BK1107.out) hb); have n3_ := Aside0.mk (blk_below (g := gb1173) (o := .cells #[.int .i8 t1142, .int .i8 t1143, .int .i8 t1144, .int .i8 t1145, .int .i8 t1146, .int .i8 t1147, .int .i8 t1148, .int .i8 t1149, .int .i8 t1150, .int .i8 t1151, .int .i8 t1152, .int .i8 t1153, .int .i8 t1154, .int .i8 t1155, .int .i8 t1156, .int .i8 t1157, .int .i8 t1158, .int .i8 t1159, .int .i8 t1160, .int .i8 t1161, .int .i8 t1162, .int .i8 t1163, .int .i8 t1164, .int .i8 t1165, .int .i8 t1166, .int .i8 t1167, .int .i8 t1168, .int .i8 t1169, .slice Ao26 t1170.length co26] 32 (0, 0)) (by (with_reducible repeat (first | refine blk_drewN ?_ _ | refine blk_drew ?_ | refine blk_alloc ?_ _)); exact BK1173.out) hb); have n4_ := Aside0.mk (below_step (by repeat (first | (with_reducible first | exact HB.out | apply below_alloc | apply pw_below_drewN | apply below_drew1 | refine below_set ?_ GE1107.out | refine below_set ?_ GE1173.out) | exact HB.out)) hb); clear HO1139; clear HO1172; clear BK1107; clear BK1173; clear HB; have HO1139 := n0_; have HO1172 := n1_; have BK1107 := n2_; have BK1173 := n3_; have HB := n4_; clear n0_ n1_ n2_ n3_ n4_; (try clear hb); (try clear hb2); (try clear hk); (try clear hi)))
        (try simp only [Act.put, List.setIfInBounds_toArray, List.set_cons_zero, List.set_cons_succ])
        go_cut [56] (fun v56 wc => ∃ (kq : Nat) (x56_17 : Bool), v56 = .bool x56_17 ∧ Aside0 (laws_FnExactFillLetter.j0 kq x56_17 a0_0 a0_1 a0_2 a0_3 a0_4 a0_5 a0_6 a0_7 a0_8 a0_9 a0_10 a0_11 a0_12 a0_13 a0_14 a0_15 a0_16 a0_17 a0_18 a0_19 a0_20 a0_21 a0_22 a0_23 a0_24 a0_25 a0_26 a0_27 l0_28 t1142 t1143 t1144 t1145 t1146 t1147 t1148 t1149 t1150 t1151 t1152 t1153 t1154 t1155 t1156 t1157 t1158 t1159 t1160 t1161 t1162 t1163 t1164 t1165 t1166 t1167 t1168 t1169 t1170 = some r) ∧ Aside0 (kq ≤ k) ∧ Aside0 (Kd.R k137 137 wc w.heap.size (fun _ => True) (.slice Ao26 t1170.length co26) t1170) ∧ Aside0 (wc.heap[gb1107]? = some (.cells #[.int .i8 a0_0, .int .i8 a0_1, .int .i8 a0_2, .int .i8 a0_3, .int .i8 a0_4, .int .i8 a0_5, .int .i8 a0_6, .int .i8 a0_7, .int .i8 a0_8, .int .i8 a0_9, .int .i8 a0_10, .int .i8 a0_11, .int .i8 a0_12, .int .i8 a0_13, .int .i8 a0_14, .int .i8 a0_15, .int .i8 a0_16, .int .i8 a0_17, .int .i8 a0_18, .int .i8 a0_19, .int .i8 a0_20, .int .i8 a0_21, .int .i8 a0_22, .int .i8 a0_23, .int .i8 a0_24, .int .i8 a0_25, .int .i8 a0_26, .int .i8 a0_27, (.slice A0_28 l0_28.length c0_28)] 26 (0, 0))) ∧ Aside0 (wc.heap[gb1173]? = some (.cells #[.int .i8 t1142, .int .i8 t1143, .int .i8 t1144, .int .i8 t1145, .int .i8 t1146, .int .i8 t1147, .int .i8 t1148, .int .i8 t1149, .int .i8 t1150, .int .i8 t1151, .int .i8 t1152, .int .i8 t1153, .int .i8 t1154, .int .i8 t1155, .int .i8 t1156, .int .i8 t1157, .int .i8 t1158, .int .i8 t1159, .int .i8 t1160, .int .i8 t1161, .int .i8 t1162, .int .i8 t1163, .int .i8 t1164, .int .i8 t1165, .int .i8 t1166, .int .i8 t1167, .int .i8 t1168, .int .i8 t1169, (.slice Ao26 t1170.length co26)] 32 (0, 0))) ∧ Aside0 (Below w.heap.size w wc))
        case first =>
          have H := HC18.out
          clear HC18
          by_cases c29 : t1174.toList = t1140.toList
          · rw [if_pos c29] at H
            have c29b0 : (t1174.toList == t1140.toList) = true := beq_iff_eq.mpr c29
            have c29b1 : (t1174.toList != t1140.toList) = false := bne_eq_false_iff_eq.mpr c29
            clear c29
            (first | rw [c29b0] | (simp only [i64_w, i32_w]; rw [c29b0]) | skip)
            have H' := Aside0.mk H
            clear H
            go_wp2
            go_meet
            case rel => exact ⟨_, ((t1175 != t1141)), (by first | rfl | (simp; done) | (simp [*]; done)), H', ⟨by first | omega | exact Nat.le_refl _⟩, ⟨by (with_reducible repeat (first | apply Kd.R_alloc | apply Kd.R_drewN | apply Kd.R_drew)); exact Kd.R_mono HO1172.out (fun _ hk => trivial)⟩, ⟨by (with_reducible repeat (first | refine blk_drewN ?_ _ | refine blk_drew ?_ | refine blk_alloc ?_ _)); exact BK1107.out⟩, ⟨by (with_reducible repeat (first | refine blk_drewN ?_ _ | refine blk_drew ?_ | refine blk_alloc ?_ _)); exact BK1173.out⟩, ⟨by repeat (first | (with_reducible first | exact HB.out | apply below_alloc | apply pw_below_drewN | apply below_drew1 | refine below_set ?_ GE1107.out | refine below_set ?_ GE1173.out) | exact HB.out)⟩⟩
          · rw [if_neg c29] at H
            have c29b0 : (t1174.toList == t1140.toList) = false := beq_eq_false_iff_ne.mpr c29
            have c29b1 : (t1174.toList != t1140.toList) = true := bne_iff_ne.mpr c29
            (first | rw [c29b0] | (simp only [i64_w, i32_w]; rw [c29b0]) | skip)
            have H' := Aside0.mk H
            clear H
            go_wp2
            go_meet
            case rel => exact ⟨_, (true), (by first | rfl | (simp; done) | (simp [*]; done)), H', ⟨by first | omega | exact Nat.le_refl _⟩, ⟨by (with_reducible repeat (first | apply Kd.R_alloc | apply Kd.R_drewN | apply Kd.R_drew)); exact Kd.R_mono HO1172.out (fun _ hk => trivial)⟩, ⟨by (with_reducible repeat (first | refine blk_drewN ?_ _ | refine blk_drew ?_ | refine blk_alloc ?_ _)); exact BK1107.out⟩, ⟨by (with_reducible repeat (first | refine blk_drewN ?_ _ | refine blk_drew ?_ | refine blk_alloc ?_ _)); exact BK1173.out⟩, ⟨by repeat (first | (with_reducible first | exact HB.out | apply below_alloc | apply pw_below_drewN | apply below_drew1 | refine below_set ?_ GE1107.out | refine below_set ?_ GE1173.out) | exact HB.out)⟩⟩
        case rest =>
          clear HC18
          try clear c1
          try clear c2
          try clear p2
          try clear c3
          try clear c6
          try clear c6b0
          try clear c6b1
          try clear c8
          try clear c8b0
          try clear c8b1
          try clear c9
          try clear c11
          try clear c11b0
          try clear c18
          try clear c20
          try clear c29
          try clear c29b0
          try clear c29b1
          obtain ⟨kq, x56_17, rfl, HA, HJ17, HO_1174028, BK1107, BK1173, HB⟩ := hcut
          cases kq with
          | zero => exact absurd HA.out (by simp [laws_FnExactFillLetter.j0])
          | succ kj17 =>
            have H := HA.out
            clear HA
            simp only [laws_FnExactFillLetter.j0] at H
            by_cases c30 : x56_17 = true
            · subst c30
              have H1 : (some false) = some r := by rw [if_pos rfl] at H; exact H
              clear H
              have H := H1
              clear H1
              obtain rfl := Option.some.inj H
              go_wp2
              go_ret
              exact ⟨by first | rfl | (simp [errW_none, errW_some] <;> rfl) | (simp [*, errW_none, errW_some] <;> rfl), by repeat (first | (with_reducible first | exact HB.out | apply below_alloc | apply pw_below_drewN | apply below_drew1 | refine below_set ?_ GE1107.out | refine below_set ?_ GE1173.out) | exact HB.out)⟩
            · replace c30 := Bool.eq_false_iff.mpr c30
              subst c30
              have H1 : ((laws_toFace.f a0_0 a0_1 a0_2 a0_3 a0_4 a0_5 a0_6 a0_7 a0_8 a0_9 a0_10 a0_11 a0_12 a0_13 a0_14 a0_15 a0_16 a0_17 a0_18 a0_19 a0_20 a0_21 a0_22 a0_23 a0_24 a0_25 a0_26 a0_27 l0_28).bind fun bt1176 => ((laws_eqFace.f t1142 t1143 t1144 t1145 t1146 t1147 t1148 t1149 t1150 t1151 t1152 t1153 t1154 t1155 t1156 t1157 t1158 t1159 t1160 t1161 t1162 t1163 t1164 t1165 t1166 t1167 t1168 t1169 t1170 bt1176.1 bt1176.2.1 bt1176.2.2.1 bt1176.2.2.2.1 bt1176.2.2.2.2.1 bt1176.2.2.2.2.2.1 bt1176.2.2.2.2.2.2.1 bt1176.2.2.2.2.2.2.2.1 bt1176.2.2.2.2.2.2.2.2.1 bt1176.2.2.2.2.2.2.2.2.2.1 bt1176.2.2.2.2.2.2.2.2.2.2.1 bt1176.2.2.2.2.2.2.2.2.2.2.2.1 bt1176.2.2.2.2.2.2.2.2.2.2.2.2.1 bt1176.2.2.2.2.2.2.2.2.2.2.2.2.2.1 bt1176.2.2.2.2.2.2.2.2.2.2.2.2.2.2.1 bt1176.2.2.2.2.2.2.2.2.2.2.2.2.2.2.2.1 bt1176.2.2.2.2.2.2.2.2.2.2.2.2.2.2.2.2.1 bt1176.2.2.2.2.2.2.2.2.2.2.2.2.2.2.2.2.2.1 bt1176.2.2.2.2.2.2.2.2.2.2.2.2.2.2.2.2.2.2.1 bt1176.2.2.2.2.2.2.2.2.2.2.2.2.2.2.2.2.2.2.2.1 bt1176.2.2.2.2.2.2.2.2.2.2.2.2.2.2.2.2.2.2.2.2.1 bt1176.2.2.2.2.2.2.2.2.2.2.2.2.2.2.2.2.2.2.2.2.2.1 bt1176.2.2.2.2.2.2.2.2.2.2.2.2.2.2.2.2.2.2.2.2.2.2.1 bt1176.2.2.2.2.2.2.2.2.2.2.2.2.2.2.2.2.2.2.2.2.2.2.2.1 bt1176.2.2.2.2.2.2.2.2.2.2.2.2.2.2.2.2.2.2.2.2.2.2.2.2.1 bt1176.2.2.2.2.2.2.2.2.2.2.2.2.2.2.2.2.2.2.2.2.2.2.2.2.2.1 bt1176.2.2.2.2.2.2.2.2.2.2.2.2.2.2.2.2.2.2.2.2.2.2.2.2.2.2.1 bt1176.2.2.2.2.2.2.2.2.2.2.2.2.2.2.2.2.2.2.2.2.2.2.2.2.2.2.2.1 bt1176.2.2.2.2.2.2.2.2.2.2.2.2.2.2.2.2.2.2.2.2.2.2.2.2.2.2.2.2).bind fun t1207 => (if t1207 = true then (some true) else (some false)))) = some r := by rw [if_neg (show ¬ (false = true) by decide)] at H; exact H
              clear H
              have H := H1
              clear H1
              replace H := Option.bind_eq_some_iff.mp H
              obtain ⟨⟨t1176, t1177, t1178, t1179, t1180, t1181, t1182, t1183, t1184, t1185, t1186, t1187, t1188, t1189, t1190, t1191, t1192, t1193, t1194, t1195, t1196, t1197, t1198, t1199, t1200, t1201, t1202, t1203, t1204⟩, A310, H⟩ := H
              replace H : ((laws_eqFace.f t1142 t1143 t1144 t1145 t1146 t1147 t1148 t1149 t1150 t1151 t1152 t1153 t1154 t1155 t1156 t1157 t1158 t1159 t1160 t1161 t1162 t1163 t1164 t1165 t1166 t1167 t1168 t1169 t1170 t1176 t1177 t1178 t1179 t1180 t1181 t1182 t1183 t1184 t1185 t1186 t1187 t1188 t1189 t1190 t1191 t1192 t1193 t1194 t1195 t1196 t1197 t1198 t1199 t1200 t1201 t1202 t1203 t1204).bind fun t1207 => (if t1207 = true then (some true) else (some false))) = some r := H
              have A31 := Aside0.mk A310
              clear A310
              replace H := Option.bind_eq_some_iff.mp H
              obtain ⟨t1207, A320, H⟩ := H
              replace H : (if t1207 = true then (some true) else (some false)) = some r := H
              have A32 := Aside0.mk A320
              clear A320
              by_cases c33 : t1207 = true
              · subst c33
                have H1 : (some true) = some r := by rw [if_pos rfl] at H; exact H
                clear H
                have H := H1
                clear H1
                obtain rfl := Option.some.inj H
                try go_wp2
                have n0_ := Aside0.mk (Kd.R_drew HO_1174028.out)
                have n1_ := Aside0.mk (blk_drew BK1107.out)
                have n2_ := Aside0.mk (blk_drew BK1173.out)
                have n3_ := Aside0.mk (below_drew1 HB.out)
                clear HO_1174028
                clear BK1107
                clear BK1173
                clear HB
                have HO_1174028 := n0_
                have BK1107 := n1_
                have BK1173 := n2_
                have HB := n3_
                clear n0_ n1_ n2_ n3_
                refine start_ (n := 5) (S := fun w' => w'.heap[gb1173]? = some (.cells #[.int .i8 t1142, .int .i8 t1143, .int .i8 t1144, .int .i8 t1145, .int .i8 t1146, .int .i8 t1147, .int .i8 t1148, .int .i8 t1149, .int .i8 t1150, .int .i8 t1151, .int .i8 t1152, .int .i8 t1153, .int .i8 t1154, .int .i8 t1155, .int .i8 t1156, .int .i8 t1157, .int .i8 t1158, .int .i8 t1159, .int .i8 t1160, .int .i8 t1161, .int .i8 t1162, .int .i8 t1163, .int .i8 t1164, .int .i8 t1165, .int .i8 t1166, .int .i8 t1167, .int .i8 t1168, .int .i8 t1169, .slice Ao26 t1170.length co26] 32 (0, 0)) ∧ w'.heap[gb1107]? = some (.cells #[.int .i8 a0_0, .int .i8 a0_1, .int .i8 a0_2, .int .i8 a0_3, .int .i8 a0_4, .int .i8 a0_5, .int .i8 a0_6, .int .i8 a0_7, .int .i8 a0_8, .int .i8 a0_9, .int .i8 a0_10, .int .i8 a0_11, .int .i8 a0_12, .int .i8 a0_13, .int .i8 a0_14, .int .i8 a0_15, .int .i8 a0_16, .int .i8 a0_17, .int .i8 a0_18, .int .i8 a0_19, .int .i8 a0_20, .int .i8 a0_21, .int .i8 a0_22, .int .i8 a0_23, .int .i8 a0_24, .int .i8 a0_25, .int .i8 a0_26, .int .i8 a0_27, .slice A0_28 l0_28.length c0_28] 26 (0, 0))) (ds := []) #[false, false, false, false, false] (by kernel_rfl) rfl rfl ⟨BK1173.out, BK1107.out⟩ (fun hHeld => ?_)
                generalize wc.drew = w34 at HO_1174028 BK1107 BK1173 HB hHeld ⊢
                refine take_ (i := 0) (N := some 57) (v := ?_) (a' := ?_) #[true, false, false, false, false] rfl rfl (by kernel_rfl) (fun _ _ _ h => h) (Or.inl ⟨by rfl, ?_⟩) hHeld ?_ ?_
                rotate_left
                · rintro w' ⟨s0, s1⟩
                  refine exec_load_partx_ 32 (.tmp 14) _ 0 [] [.int .i8 t1142, .int .i8 t1143, .int .i8 t1144, .int .i8 t1145, .int .i8 t1146, .int .i8 t1147, .int .i8 t1148, .int .i8 t1149, .int .i8 t1150, .int .i8 t1151, .int .i8 t1152, .int .i8 t1153, .int .i8 t1154, .int .i8 t1155, .int .i8 t1156, .int .i8 t1157, .int .i8 t1158, .int .i8 t1159, .int .i8 t1160, .int .i8 t1161, .int .i8 t1162, .int .i8 t1163, .int .i8 t1164, .int .i8 t1165, .int .i8 t1166, .int .i8 t1167, .int .i8 t1168, .int .i8 t1169, .slice Ao26 t1170.length co26] [] rfl s0 ?_ ?_ Tryd.underlying32 rfl (by exact (show (Tryd.prog.info? 32).map (·.size) = some 29 by kernel_rfl))
                  · rfl
                  · rfl
                rotate_left
                · simp only [Act.put, List.setIfInBounds_toArray, List.set_cons_zero, List.set_cons_succ, i64_w, i32_w, u8_w_]
                  rfl
                refine take_ (i := 1) (N := some 58) (v := ?_) (a' := ?_) #[true, true, false, false, false] rfl rfl (by kernel_rfl) (fun _ _ _ h => h) (Or.inl ⟨by rfl, ?_⟩) hHeld ?_ ?_
                rotate_left
                · rintro w' ⟨s0, s1⟩
                  refine exec_load_partx_ 26 (.tmp 5) _ 0 [] [.int .i8 a0_0, .int .i8 a0_1, .int .i8 a0_2, .int .i8 a0_3, .int .i8 a0_4, .int .i8 a0_5, .int .i8 a0_6, .int .i8 a0_7, .int .i8 a0_8, .int .i8 a0_9, .int .i8 a0_10, .int .i8 a0_11, .int .i8 a0_12, .int .i8 a0_13, .int .i8 a0_14, .int .i8 a0_15, .int .i8 a0_16, .int .i8 a0_17, .int .i8 a0_18, .int .i8 a0_19, .int .i8 a0_20, .int .i8 a0_21, .int .i8 a0_22, .int .i8 a0_23, .int .i8 a0_24, .int .i8 a0_25, .int .i8 a0_26, .int .i8 a0_27, .slice A0_28 l0_28.length c0_28] [] rfl s1 ?_ ?_ Tryd.underlying26 rfl (by exact (show (Tryd.prog.info? 26).map (·.size) = some 29 by kernel_rfl))
                  · rfl
                  · rfl
                rotate_left
                · simp only [Act.put, List.setIfInBounds_toArray, List.set_cons_zero, List.set_cons_succ, i64_w, i32_w, u8_w_]
                  rfl
                refine one_ (i := 2) (N := some 59) #[true, true, true, false, false] rfl rfl (by kernel_rfl) (by decide) (fun K hK => ?_)
                refine goes_ Tryd.func20 (by kernel_rfl) rfl #[.agg #[.int .i8 a0_0, .int .i8 a0_1, .int .i8 a0_2, .int .i8 a0_3, .int .i8 a0_4, .int .i8 a0_5, .int .i8 a0_6, .int .i8 a0_7, .int .i8 a0_8, .int .i8 a0_9, .int .i8 a0_10, .int .i8 a0_11, .int .i8 a0_12, .int .i8 a0_13, .int .i8 a0_14, .int .i8 a0_15, .int .i8 a0_16, .int .i8 a0_17, .int .i8 a0_18, .int .i8 a0_19, .int .i8 a0_20, .int .i8 a0_21, .int .i8 a0_22, .int .i8 a0_23, .int .i8 a0_24, .int .i8 a0_25, .int .i8 a0_26, .int .i8 a0_27, .slice A0_28 l0_28.length c0_28]] (by rfl) rfl rfl (by (try simp only [List.map_toArray, List.map_cons, List.map_nil]); first | done | rfl | (simp only [List.length_drop, List.length_take]; rfl)) ?_
                with_reducible refine (laws_toFace.calls a0_0 a0_1 a0_2 a0_3 a0_4 a0_5 a0_6 a0_7 a0_8 a0_9 a0_10 a0_11 a0_12 a0_13 a0_14 a0_15 a0_16 a0_17 a0_18 a0_19 a0_20 a0_21 a0_22 a0_23 a0_24 a0_25 a0_26 a0_27 _ _ l0_28 t1176 t1177 t1178 t1179 t1180 t1181 t1182 t1183 t1184 t1185 t1186 t1187 t1188 t1189 t1190 t1191 t1192 t1193 t1194 t1195 t1196 t1197 t1198 t1199 t1200 t1201 t1202 t1203 t1204 _ ?side1 ?side2 A31.out).mono ?_
                (case side1 => repeat (first | exact (Kd.C_below HR0_28.out HB.out) | (with_reducible refine Kd.C_alloc ?_ _) | (with_reducible refine Kd.C_drewN ?_ _) | (with_reducible refine Kd.C_drew ?_)))
                (case side2 => exact HC0_28.out)
                rintro e w35 ⟨v1205, rfl, ho0, hb⟩
                refine ⟨_, rfl, ?_⟩
                have n0_ := Aside0.mk (Kd.R_elder' (by (with_reducible repeat (first | apply Kd.R_alloc | apply Kd.R_drewN | apply Kd.R_drew)); exact HO_1174028.out) (Kd.R_base ho0) hb)
                have n1_ := Aside0.mk (Kd.R_lower (Kd.R_new' ho0 (Kd.R_lt (by (with_reducible repeat (first | apply Kd.R_alloc | apply Kd.R_drewN | apply Kd.R_drew)); exact HO_1174028.out))) (below_size (by repeat (first | (with_reducible first | exact HB.out | apply below_alloc | apply pw_below_drewN | apply below_drew1 | refine below_set ?_ GE1107.out | refine below_set ?_ GE1173.out) | exact HB.out))))
                have n2_ := Aside0.mk (blk_below (g := gb1107) (o := .cells #[.int .i8 a0_0, .int .i8 a0_1, .int .i8 a0_2, .int .i8 a0_3, .int .i8 a0_4, .int .i8 a0_5, .int .i8 a0_6, .int .i8 a0_7, .int .i8 a0_8, .int .i8 a0_9, .int .i8 a0_10, .int .i8 a0_11, .int .i8 a0_12, .int .i8 a0_13, .int .i8 a0_14, .int .i8 a0_15, .int .i8 a0_16, .int .i8 a0_17, .int .i8 a0_18, .int .i8 a0_19, .int .i8 a0_20, .int .i8 a0_21, .int .i8 a0_22, .int .i8 a0_23, .int .i8 a0_24, .int .i8 a0_25, .int .i8 a0_26, .int .i8 a0_27, .slice A0_28 l0_28.length c0_28] 26 (0, 0)) (by (with_reducible repeat (first | refine blk_drewN ?_ _ | refine blk_drew ?_ | refine blk_alloc ?_ _)); exact BK1107.out) hb)
                have n3_ := Aside0.mk (blk_below (g := gb1173) (o := .cells #[.int .i8 t1142, .int .i8 t1143, .int .i8 t1144, .int .i8 t1145, .int .i8 t1146, .int .i8 t1147, .int .i8 t1148, .int .i8 t1149, .int .i8 t1150, .int .i8 t1151, .int .i8 t1152, .int .i8 t1153, .int .i8 t1154, .int .i8 t1155, .int .i8 t1156, .int .i8 t1157, .int .i8 t1158, .int .i8 t1159, .int .i8 t1160, .int .i8 t1161, .int .i8 t1162, .int .i8 t1163, .int .i8 t1164, .int .i8 t1165, .int .i8 t1166, .int .i8 t1167, .int .i8 t1168, .int .i8 t1169, .slice Ao26 t1170.length co26] 32 (0, 0)) (by (with_reducible repeat (first | refine blk_drewN ?_ _ | refine blk_drew ?_ | refine blk_alloc ?_ _)); exact BK1173.out) hb)
                have n4_ := Aside0.mk (below_step (by repeat (first | (with_reducible first | exact HB.out | apply below_alloc | apply pw_below_drewN | apply below_drew1 | refine below_set ?_ GE1107.out | refine below_set ?_ GE1173.out) | exact HB.out)) hb)
                clear HO_1174028
                clear BK1107
                clear BK1173
                clear HB
                have HO_1174028 := n0_
                have HO1206 := n1_
                have BK1107 := n2_
                have BK1173 := n3_
                have HB := n4_
                clear n0_ n1_ n2_ n3_ n4_
                (try clear hb)
                (try clear hb2)
                (try clear hk)
                (try clear hi)
                (try clear ho0)
                obtain ⟨Ao36, co36, eo36⟩ := Kd.R_slice HO1206.out
                (first | subst eo36 | (injection eo36 with f1_ f2_ f3_; have f4_ := f1_.symm; have f5_ := f3_.symm; clear f1_ f2_ f3_; subst f4_; subst f5_))
                refine hK.out _ _ ⟨BK1173.out, BK1107.out⟩ (fun hHeld => ?_)
                clear hK K
                refine norm_ (a' := ?_) ?_ ?_
                rotate_left
                · show Act.put _ (some 59) _ = _
                  simp only [Act.put, List.setIfInBounds_toArray, List.set_cons_zero, List.set_cons_succ, i64_w, i32_w, u8_w_]
                  rfl
                refine one_ (i := 3) (N := some 60) #[true, true, true, true, false] rfl rfl (by kernel_rfl) (by decide) (fun K hK => ?_)
                refine goes_ Tryd.func22 (by kernel_rfl) rfl #[.agg #[.int .i8 t1142, .int .i8 t1143, .int .i8 t1144, .int .i8 t1145, .int .i8 t1146, .int .i8 t1147, .int .i8 t1148, .int .i8 t1149, .int .i8 t1150, .int .i8 t1151, .int .i8 t1152, .int .i8 t1153, .int .i8 t1154, .int .i8 t1155, .int .i8 t1156, .int .i8 t1157, .int .i8 t1158, .int .i8 t1159, .int .i8 t1160, .int .i8 t1161, .int .i8 t1162, .int .i8 t1163, .int .i8 t1164, .int .i8 t1165, .int .i8 t1166, .int .i8 t1167, .int .i8 t1168, .int .i8 t1169, .slice Ao26 t1170.length co26], .agg #[.int .i8 t1176, .int .i8 t1177, .int .i8 t1178, .int .i8 t1179, .int .i8 t1180, .int .i8 t1181, .int .i8 t1182, .int .i8 t1183, .int .i8 t1184, .int .i8 t1185, .int .i8 t1186, .int .i8 t1187, .int .i8 t1188, .int .i8 t1189, .int .i8 t1190, .int .i8 t1191, .int .i8 t1192, .int .i8 t1193, .int .i8 t1194, .int .i8 t1195, .int .i8 t1196, .int .i8 t1197, .int .i8 t1198, .int .i8 t1199, .int .i8 t1200, .int .i8 t1201, .int .i8 t1202, .int .i8 t1203, .slice Ao36 t1204.length co36]] (by rfl) rfl rfl (by (try simp only [List.map_toArray, List.map_cons, List.map_nil]); first | done | rfl | (simp only [List.length_drop, List.length_take]; rfl)) ?_
                with_reducible refine (laws_eqFace.calls t1142 t1143 t1144 t1145 t1146 t1147 t1148 t1149 t1150 t1151 t1152 t1153 t1154 t1155 t1156 t1157 t1158 t1159 t1160 t1161 t1162 t1163 t1164 t1165 t1166 t1167 t1168 t1169 _ _ t1170 t1176 t1177 t1178 t1179 t1180 t1181 t1182 t1183 t1184 t1185 t1186 t1187 t1188 t1189 t1190 t1191 t1192 t1193 t1194 t1195 t1196 t1197 t1198 t1199 t1200 t1201 t1202 t1203 _ _ t1204 true _ ?side1 ?side2 ?side3 ?side4 A32.out).mono ?_
                (case side1 => repeat (first | exact (Kd.R_reads' HO_1174028.out).2.2 | (with_reducible refine Kd.C_alloc ?_ _) | (with_reducible refine Kd.C_drewN ?_ _) | (with_reducible refine Kd.C_drew ?_)))
                (case side2 => exact (Kd.R_reads' HO_1174028.out).2.1)
                (case side3 => repeat (first | exact (Kd.R_reads' HO1206.out).2.2 | (with_reducible refine Kd.C_alloc ?_ _) | (with_reducible refine Kd.C_drewN ?_ _) | (with_reducible refine Kd.C_drew ?_)))
                (case side4 => exact (Kd.R_reads' HO1206.out).2.1)
                rintro e w37 ⟨rfl, hb⟩
                refine ⟨_, rfl, ?_⟩
                have n0_ := Aside0.mk (Kd.R_below (by (with_reducible repeat (first | apply Kd.R_alloc | apply Kd.R_drewN | apply Kd.R_drew)); exact HO_1174028.out) hb)
                have n1_ := Aside0.mk (Kd.R_below (by (with_reducible repeat (first | apply Kd.R_alloc | apply Kd.R_drewN | apply Kd.R_drew)); exact HO1206.out) hb)
                have n2_ := Aside0.mk (blk_below (g := gb1107) (o := .cells #[.int .i8 a0_0, .int .i8 a0_1, .int .i8 a0_2, .int .i8 a0_3, .int .i8 a0_4, .int .i8 a0_5, .int .i8 a0_6, .int .i8 a0_7, .int .i8 a0_8, .int .i8 a0_9, .int .i8 a0_10, .int .i8 a0_11, .int .i8 a0_12, .int .i8 a0_13, .int .i8 a0_14, .int .i8 a0_15, .int .i8 a0_16, .int .i8 a0_17, .int .i8 a0_18, .int .i8 a0_19, .int .i8 a0_20, .int .i8 a0_21, .int .i8 a0_22, .int .i8 a0_23, .int .i8 a0_24, .int .i8 a0_25, .int .i8 a0_26, .int .i8 a0_27, .slice A0_28 l0_28.length c0_28] 26 (0, 0)) (by (with_reducible repeat (first | refine blk_drewN ?_ _ | refine blk_drew ?_ | refine blk_alloc ?_ _)); exact BK1107.out) hb)
                have n3_ := Aside0.mk (blk_below (g := gb1173) (o := .cells #[.int .i8 t1142, .int .i8 t1143, .int .i8 t1144, .int .i8 t1145, .int .i8 t1146, .int .i8 t1147, .int .i8 t1148, .int .i8 t1149, .int .i8 t1150, .int .i8 t1151, .int .i8 t1152, .int .i8 t1153, .int .i8 t1154, .int .i8 t1155, .int .i8 t1156, .int .i8 t1157, .int .i8 t1158, .int .i8 t1159, .int .i8 t1160, .int .i8 t1161, .int .i8 t1162, .int .i8 t1163, .int .i8 t1164, .int .i8 t1165, .int .i8 t1166, .int .i8 t1167, .int .i8 t1168, .int .i8 t1169, .slice Ao26 t1170.length co26] 32 (0, 0)) (by (with_reducible repeat (first | refine blk_drewN ?_ _ | refine blk_drew ?_ | refine blk_alloc ?_ _)); exact BK1173.out) hb)
                have n4_ := Aside0.mk (below_step (by repeat (first | (with_reducible first | exact HB.out | apply below_alloc | apply pw_below_drewN | apply below_drew1 | refine below_set ?_ GE1107.out | refine below_set ?_ GE1173.out) | exact HB.out)) hb)
                clear HO_1174028
                clear HO1206
                clear BK1107
                clear BK1173
                clear HB
                have HO_1174028 := n0_
                have HO1206 := n1_
                have BK1107 := n2_
                have BK1173 := n3_
                have HB := n4_
                clear n0_ n1_ n2_ n3_ n4_
                (try clear hb)
                (try clear hb2)
                (try clear hk)
                (try clear hi)
                refine hK.out _ _ ⟨BK1173.out, BK1107.out⟩ (fun hHeld => ?_)
                clear hK K
                refine norm_ (a' := ?_) ?_ ?_
                rotate_left
                · show Act.put _ (some 60) _ = _
                  simp only [Act.put, List.setIfInBounds_toArray, List.set_cons_zero, List.set_cons_succ, i64_w, i32_w, u8_w_]
                  rfl
                refine pure_ (i := 4) (N := some 61) (v := ?_) (a' := ?_) #[true, true, true, true, true] rfl rfl (by kernel_rfl) (fun _ _ _ h => h) (Or.inl ⟨by rfl, ?_⟩) ?_ ?_
                rotate_left
                · intro w'
                  go_simp
                  with_reducible rfl
                rotate_left
                · simp only [Act.put, List.setIfInBounds_toArray, List.set_cons_zero, List.set_cons_succ, i64_w, i32_w, u8_w_]
                  rfl
                refine done_ (by kernel_rfl) ?_
                try go_wp2
                go_ret
                exact ⟨by first | rfl | (simp [errW_none, errW_some] <;> rfl) | (simp [*, errW_none, errW_some] <;> rfl), by repeat (first | (with_reducible first | exact HB.out | apply below_alloc | apply pw_below_drewN | apply below_drew1 | refine below_set ?_ GE1107.out | refine below_set ?_ GE1173.out) | exact HB.out)⟩
              · replace c33 := Bool.eq_false_iff.mpr c33
                subst c33
                have H1 : (some false) = some r := by rw [if_neg (show ¬ (false = true) by decide)] at H; exact H
                clear H
                have H := H1
                clear H1
                obtain rfl := Option.some.inj H
                try go_wp2
                have n0_ := Aside0.mk (Kd.R_drew HO_1174028.out)
                have n1_ := Aside0.mk (blk_drew BK1107.out)
                have n2_ := Aside0.mk (blk_drew BK1173.out)
                have n3_ := Aside0.mk (below_drew1 HB.out)
                clear HO_1174028
                clear BK1107
                clear BK1173
                clear HB
                have HO_1174028 := n0_
                have BK1107 := n1_
                have BK1173 := n2_
                have HB := n3_
                clear n0_ n1_ n2_ n3_
                refine start_ (n := 5) (S := fun w' => w'.heap[gb1173]? = some (.cells #[.int .i8 t1142, .int .i8 t1143, .int .i8 t1144, .int .i8 t1145, .int .i8 t1146, .int .i8 t1147, .int .i8 t1148, .int .i8 t1149, .int .i8 t1150, .int .i8 t1151, .int .i8 t1152, .int .i8 t1153, .int .i8 t1154, .int .i8 t1155, .int .i8 t1156, .int .i8 t1157, .int .i8 t1158, .int .i8 t1159, .int .i8 t1160, .int .i8 t1161, .int .i8 t1162, .int .i8 t1163, .int .i8 t1164, .int .i8 t1165, .int .i8 t1166, .int .i8 t1167, .int .i8 t1168, .int .i8 t1169, .slice Ao26 t1170.length co26] 32 (0, 0)) ∧ w'.heap[gb1107]? = some (.cells #[.int .i8 a0_0, .int .i8 a0_1, .int .i8 a0_2, .int .i8 a0_3, .int .i8 a0_4, .int .i8 a0_5, .int .i8 a0_6, .int .i8 a0_7, .int .i8 a0_8, .int .i8 a0_9, .int .i8 a0_10, .int .i8 a0_11, .int .i8 a0_12, .int .i8 a0_13, .int .i8 a0_14, .int .i8 a0_15, .int .i8 a0_16, .int .i8 a0_17, .int .i8 a0_18, .int .i8 a0_19, .int .i8 a0_20, .int .i8 a0_21, .int .i8 a0_22, .int .i8 a0_23, .int .i8 a0_24, .int .i8 a0_25, .int .i8 a0_26, .int .i8 a0_27, .slice A0_28 l0_28.length c0_28] 26 (0, 0))) (ds := []) #[false, false, false, false, false] (by kernel_rfl) rfl rfl ⟨BK1173.out, BK1107.out⟩ (fun hHeld => ?_)
                generalize wc.drew = w38 at HO_1174028 BK1107 BK1173 HB hHeld ⊢
                refine take_ (i := 0) (N := some 57) (v := ?_) (a' := ?_) #[true, false, false, false, false] rfl rfl (by kernel_rfl) (fun _ _ _ h => h) (Or.inl ⟨by rfl, ?_⟩) hHeld ?_ ?_
                rotate_left
                · rintro w' ⟨s0, s1⟩
                  refine exec_load_partx_ 32 (.tmp 14) _ 0 [] [.int .i8 t1142, .int .i8 t1143, .int .i8 t1144, .int .i8 t1145, .int .i8 t1146, .int .i8 t1147, .int .i8 t1148, .int .i8 t1149, .int .i8 t1150, .int .i8 t1151, .int .i8 t1152, .int .i8 t1153, .int .i8 t1154, .int .i8 t1155, .int .i8 t1156, .int .i8 t1157, .int .i8 t1158, .int .i8 t1159, .int .i8 t1160, .int .i8 t1161, .int .i8 t1162, .int .i8 t1163, .int .i8 t1164, .int .i8 t1165, .int .i8 t1166, .int .i8 t1167, .int .i8 t1168, .int .i8 t1169, .slice Ao26 t1170.length co26] [] rfl s0 ?_ ?_ Tryd.underlying32 rfl (by exact (show (Tryd.prog.info? 32).map (·.size) = some 29 by kernel_rfl))
                  · rfl
                  · rfl
                rotate_left
                · simp only [Act.put, List.setIfInBounds_toArray, List.set_cons_zero, List.set_cons_succ, i64_w, i32_w, u8_w_]
                  rfl
                refine take_ (i := 1) (N := some 58) (v := ?_) (a' := ?_) #[true, true, false, false, false] rfl rfl (by kernel_rfl) (fun _ _ _ h => h) (Or.inl ⟨by rfl, ?_⟩) hHeld ?_ ?_
                rotate_left
                · rintro w' ⟨s0, s1⟩
                  refine exec_load_partx_ 26 (.tmp 5) _ 0 [] [.int .i8 a0_0, .int .i8 a0_1, .int .i8 a0_2, .int .i8 a0_3, .int .i8 a0_4, .int .i8 a0_5, .int .i8 a0_6, .int .i8 a0_7, .int .i8 a0_8, .int .i8 a0_9, .int .i8 a0_10, .int .i8 a0_11, .int .i8 a0_12, .int .i8 a0_13, .int .i8 a0_14, .int .i8 a0_15, .int .i8 a0_16, .int .i8 a0_17, .int .i8 a0_18, .int .i8 a0_19, .int .i8 a0_20, .int .i8 a0_21, .int .i8 a0_22, .int .i8 a0_23, .int .i8 a0_24, .int .i8 a0_25, .int .i8 a0_26, .int .i8 a0_27, .slice A0_28 l0_28.length c0_28] [] rfl s1 ?_ ?_ Tryd.underlying26 rfl (by exact (show (Tryd.prog.info? 26).map (·.size) = some 29 by kernel_rfl))
                  · rfl
                  · rfl
                rotate_left
                · simp only [Act.put, List.setIfInBounds_toArray, List.set_cons_zero, List.set_cons_succ, i64_w, i32_w, u8_w_]
                  rfl
                refine one_ (i := 2) (N := some 59) #[true, true, true, false, false] rfl rfl (by kernel_rfl) (by decide) (fun K hK => ?_)
                refine goes_ Tryd.func20 (by kernel_rfl) rfl #[.agg #[.int .i8 a0_0, .int .i8 a0_1, .int .i8 a0_2, .int .i8 a0_3, .int .i8 a0_4, .int .i8 a0_5, .int .i8 a0_6, .int .i8 a0_7, .int .i8 a0_8, .int .i8 a0_9, .int .i8 a0_10, .int .i8 a0_11, .int .i8 a0_12, .int .i8 a0_13, .int .i8 a0_14, .int .i8 a0_15, .int .i8 a0_16, .int .i8 a0_17, .int .i8 a0_18, .int .i8 a0_19, .int .i8 a0_20, .int .i8 a0_21, .int .i8 a0_22, .int .i8 a0_23, .int .i8 a0_24, .int .i8 a0_25, .int .i8 a0_26, .int .i8 a0_27, .slice A0_28 l0_28.length c0_28]] (by rfl) rfl rfl (by (try simp only [List.map_toArray, List.map_cons, List.map_nil]); first | done | rfl | (simp only [List.length_drop, List.length_take]; rfl)) ?_
                with_reducible refine (laws_toFace.calls a0_0 a0_1 a0_2 a0_3 a0_4 a0_5 a0_6 a0_7 a0_8 a0_9 a0_10 a0_11 a0_12 a0_13 a0_14 a0_15 a0_16 a0_17 a0_18 a0_19 a0_20 a0_21 a0_22 a0_23 a0_24 a0_25 a0_26 a0_27 _ _ l0_28 t1176 t1177 t1178 t1179 t1180 t1181 t1182 t1183 t1184 t1185 t1186 t1187 t1188 t1189 t1190 t1191 t1192 t1193 t1194 t1195 t1196 t1197 t1198 t1199 t1200 t1201 t1202 t1203 t1204 _ ?side1 ?side2 A31.out).mono ?_
                (case side1 => repeat (first | exact (Kd.C_below HR0_28.out HB.out) | (with_reducible refine Kd.C_alloc ?_ _) | (with_reducible refine Kd.C_drewN ?_ _) | (with_reducible refine Kd.C_drew ?_)))
                (case side2 => exact HC0_28.out)
                rintro e w39 ⟨v1205, rfl, ho0, hb⟩
                refine ⟨_, rfl, ?_⟩
                have n0_ := Aside0.mk (Kd.R_elder' (by (with_reducible repeat (first | apply Kd.R_alloc | apply Kd.R_drewN | apply Kd.R_drew)); exact HO_1174028.out) (Kd.R_base ho0) hb)
                have n1_ := Aside0.mk (Kd.R_lower (Kd.R_new' ho0 (Kd.R_lt (by (with_reducible repeat (first | apply Kd.R_alloc | apply Kd.R_drewN | apply Kd.R_drew)); exact HO_1174028.out))) (below_size (by repeat (first | (with_reducible first | exact HB.out | apply below_alloc | apply pw_below_drewN | apply below_drew1 | refine below_set ?_ GE1107.out | refine below_set ?_ GE1173.out) | exact HB.out))))
                have n2_ := Aside0.mk (blk_below (g := gb1107) (o := .cells #[.int .i8 a0_0, .int .i8 a0_1, .int .i8 a0_2, .int .i8 a0_3, .int .i8 a0_4, .int .i8 a0_5, .int .i8 a0_6, .int .i8 a0_7, .int .i8 a0_8, .int .i8 a0_9, .int .i8 a0_10, .int .i8 a0_11, .int .i8 a0_12, .int .i8 a0_13, .int .i8 a0_14, .int .i8 a0_15, .int .i8 a0_16, .int .i8 a0_17, .int .i8 a0_18, .int .i8 a0_19, .int .i8 a0_20, .int .i8 a0_21, .int .i8 a0_22, .int .i8 a0_23, .int .i8 a0_24, .int .i8 a0_25, .int .i8 a0_26, .int .i8 a0_27, .slice A0_28 l0_28.length c0_28] 26 (0, 0)) (by (with_reducible repeat (first | refine blk_drewN ?_ _ | refine blk_drew ?_ | refine blk_alloc ?_ _)); exact BK1107.out) hb)
                have n3_ := Aside0.mk (blk_below (g := gb1173) (o := .cells #[.int .i8 t1142, .int .i8 t1143, .int .i8 t1144, .int .i8 t1145, .int .i8 t1146, .int .i8 t1147, .int .i8 t1148, .int .i8 t1149, .int .i8 t1150, .int .i8 t1151, .int .i8 t1152, .int .i8 t1153, .int .i8 t1154, .int .i8 t1155, .int .i8 t1156, .int .i8 t1157, .int .i8 t1158, .int .i8 t1159, .int .i8 t1160, .int .i8 t1161, .int .i8 t1162, .int .i8 t1163, .int .i8 t1164, .int .i8 t1165, .int .i8 t1166, .int .i8 t1167, .int .i8 t1168, .int .i8 t1169, .slice Ao26 t1170.length co26] 32 (0, 0)) (by (with_reducible repeat (first | refine blk_drewN ?_ _ | refine blk_drew ?_ | refine blk_alloc ?_ _)); exact BK1173.out) hb)
                have n4_ := Aside0.mk (below_step (by repeat (first | (with_reducible first | exact HB.out | apply below_alloc | apply pw_below_drewN | apply below_drew1 | refine below_set ?_ GE1107.out | refine below_set ?_ GE1173.out) | exact HB.out)) hb)
                clear HO_1174028
                clear BK1107
                clear BK1173
                clear HB
                have HO_1174028 := n0_
                have HO1206 := n1_
                have BK1107 := n2_
                have BK1173 := n3_
                have HB := n4_
                clear n0_ n1_ n2_ n3_ n4_
                (try clear hb)
                (try clear hb2)
                (try clear hk)
                (try clear hi)
                (try clear ho0)
                obtain ⟨Ao40, co40, eo40⟩ := Kd.R_slice HO1206.out
                (first | subst eo40 | (injection eo40 with f1_ f2_ f3_; have f4_ := f1_.symm; have f5_ := f3_.symm; clear f1_ f2_ f3_; subst f4_; subst f5_))
                refine hK.out _ _ ⟨BK1173.out, BK1107.out⟩ (fun hHeld => ?_)
                clear hK K
                refine norm_ (a' := ?_) ?_ ?_
                rotate_left
                · show Act.put _ (some 59) _ = _
                  simp only [Act.put, List.setIfInBounds_toArray, List.set_cons_zero, List.set_cons_succ, i64_w, i32_w, u8_w_]
                  rfl
                refine one_ (i := 3) (N := some 60) #[true, true, true, true, false] rfl rfl (by kernel_rfl) (by decide) (fun K hK => ?_)
                refine goes_ Tryd.func22 (by kernel_rfl) rfl #[.agg #[.int .i8 t1142, .int .i8 t1143, .int .i8 t1144, .int .i8 t1145, .int .i8 t1146, .int .i8 t1147, .int .i8 t1148, .int .i8 t1149, .int .i8 t1150, .int .i8 t1151, .int .i8 t1152, .int .i8 t1153, .int .i8 t1154, .int .i8 t1155, .int .i8 t1156, .int .i8 t1157, .int .i8 t1158, .int .i8 t1159, .int .i8 t1160, .int .i8 t1161, .int .i8 t1162, .int .i8 t1163, .int .i8 t1164, .int .i8 t1165, .int .i8 t1166, .int .i8 t1167, .int .i8 t1168, .int .i8 t1169, .slice Ao26 t1170.length co26], .agg #[.int .i8 t1176, .int .i8 t1177, .int .i8 t1178, .int .i8 t1179, .int .i8 t1180, .int .i8 t1181, .int .i8 t1182, .int .i8 t1183, .int .i8 t1184, .int .i8 t1185, .int .i8 t1186, .int .i8 t1187, .int .i8 t1188, .int .i8 t1189, .int .i8 t1190, .int .i8 t1191, .int .i8 t1192, .int .i8 t1193, .int .i8 t1194, .int .i8 t1195, .int .i8 t1196, .int .i8 t1197, .int .i8 t1198, .int .i8 t1199, .int .i8 t1200, .int .i8 t1201, .int .i8 t1202, .int .i8 t1203, .slice Ao40 t1204.length co40]] (by rfl) rfl rfl (by (try simp only [List.map_toArray, List.map_cons, List.map_nil]); first | done | rfl | (simp only [List.length_drop, List.length_take]; rfl)) ?_
                with_reducible refine (laws_eqFace.calls t1142 t1143 t1144 t1145 t1146 t1147 t1148 t1149 t1150 t1151 t1152 t1153 t1154 t1155 t1156 t1157 t1158 t1159 t1160 t1161 t1162 t1163 t1164 t1165 t1166 t1167 t1168 t1169 _ _ t1170 t1176 t1177 t1178 t1179 t1180 t1181 t1182 t1183 t1184 t1185 t1186 t1187 t1188 t1189 t1190 t1191 t1192 t1193 t1194 t1195 t1196 t1197 t1198 t1199 t1200 t1201 t1202 t1203 _ _ t1204 false _ ?side1 ?side2 ?side3 ?side4 A32.out).mono ?_
                (case side1 => repeat (first | exact (Kd.R_reads' HO_1174028.out).2.2 | (with_reducible refine Kd.C_alloc ?_ _) | (with_reducible refine Kd.C_drewN ?_ _) | (with_reducible refine Kd.C_drew ?_)))
                (case side2 => exact (Kd.R_reads' HO_1174028.out).2.1)
                (case side3 => repeat (first | exact (Kd.R_reads' HO1206.out).2.2 | (with_reducible refine Kd.C_alloc ?_ _) | (with_reducible refine Kd.C_drewN ?_ _) | (with_reducible refine Kd.C_drew ?_)))
                (case side4 => exact (Kd.R_reads' HO1206.out).2.1)
                rintro e w41 ⟨rfl, hb⟩
                refine ⟨_, rfl, ?_⟩
                have n0_ := Aside0.mk (Kd.R_below (by (with_reducible repeat (first | apply Kd.R_alloc | apply Kd.R_drewN | apply Kd.R_drew)); exact HO_1174028.out) hb)
                have n1_ := Aside0.mk (Kd.R_below (by (with_reducible repeat (first | apply Kd.R_alloc | apply Kd.R_drewN | apply Kd.R_drew)); exact HO1206.out) hb)
                have n2_ := Aside0.mk (blk_below (g := gb1107) (o := .cells #[.int .i8 a0_0, .int .i8 a0_1, .int .i8 a0_2, .int .i8 a0_3, .int .i8 a0_4, .int .i8 a0_5, .int .i8 a0_6, .int .i8 a0_7, .int .i8 a0_8, .int .i8 a0_9, .int .i8 a0_10, .int .i8 a0_11, .int .i8 a0_12, .int .i8 a0_13, .int .i8 a0_14, .int .i8 a0_15, .int .i8 a0_16, .int .i8 a0_17, .int .i8 a0_18, .int .i8 a0_19, .int .i8 a0_20, .int .i8 a0_21, .int .i8 a0_22, .int .i8 a0_23, .int .i8 a0_24, .int .i8 a0_25, .int .i8 a0_26, .int .i8 a0_27, .slice A0_28 l0_28.length c0_28] 26 (0, 0)) (by (with_reducible repeat (first | refine blk_drewN ?_ _ | refine blk_drew ?_ | refine blk_alloc ?_ _)); exact BK1107.out) hb)
                have n3_ := Aside0.mk (blk_below (g := gb1173) (o := .cells #[.int .i8 t1142, .int .i8 t1143, .int .i8 t1144, .int .i8 t1145, .int .i8 t1146, .int .i8 t1147, .int .i8 t1148, .int .i8 t1149, .int .i8 t1150, .int .i8 t1151, .int .i8 t1152, .int .i8 t1153, .int .i8 t1154, .int .i8 t1155, .int .i8 t1156, .int .i8 t1157, .int .i8 t1158, .int .i8 t1159, .int .i8 t1160, .int .i8 t1161, .int .i8 t1162, .int .i8 t1163, .int .i8 t1164, .int .i8 t1165, .int .i8 t1166, .int .i8 t1167, .int .i8 t1168, .int .i8 t1169, .slice Ao26 t1170.length co26] 32 (0, 0)) (by (with_reducible repeat (first | refine blk_drewN ?_ _ | refine blk_drew ?_ | refine blk_alloc ?_ _)); exact BK1173.out) hb)
                have n4_ := Aside0.mk (below_step (by repeat (first | (with_reducible first | exact HB.out | apply below_alloc | apply pw_below_drewN | apply below_drew1 | refine below_set ?_ GE1107.out | refine below_set ?_ GE1173.out) | exact HB.out)) hb)
                clear HO_1174028
                clear HO1206
                clear BK1107
                clear BK1173
                clear HB
                have HO_1174028 := n0_
                have HO1206 := n1_
                have BK1107 := n2_
                have BK1173 := n3_
                have HB := n4_
                clear n0_ n1_ n2_ n3_ n4_
                (try clear hb)
                (try clear hb2)
                (try clear hk)
                (try clear hi)
                refine hK.out _ _ ⟨BK1173.out, BK1107.out⟩ (fun hHeld => ?_)
                clear hK K
                refine norm_ (a' := ?_) ?_ ?_
                rotate_left
                · show Act.put _ (some 60) _ = _
                  simp only [Act.put, List.setIfInBounds_toArray, List.set_cons_zero, List.set_cons_succ, i64_w, i32_w, u8_w_]
                  rfl
                refine pure_ (i := 4) (N := some 61) (v := ?_) (a' := ?_) #[true, true, true, true, true] rfl rfl (by kernel_rfl) (fun _ _ _ h => h) (Or.inl ⟨by rfl, ?_⟩) ?_ ?_
                rotate_left
                · intro w'
                  go_simp
                  with_reducible rfl
                rotate_left
                · simp only [Act.put, List.setIfInBounds_toArray, List.set_cons_zero, List.set_cons_succ, i64_w, i32_w, u8_w_]
                  rfl
                refine done_ (by kernel_rfl) ?_
                try go_wp2
                go_ret
                exact ⟨by first | rfl | (simp [errW_none, errW_some] <;> rfl) | (simp [*, errW_none, errW_some] <;> rfl), by repeat (first | (with_reducible first | exact HB.out | apply below_alloc | apply pw_below_drewN | apply below_drew1 | refine below_set ?_ GE1107.out | refine below_set ?_ GE1173.out) | exact HB.out)⟩
end Go.Proofs.YticjkfacdmmopaaDoor.Q
namespace Go.Proofs.YticjkfacdmmopaaDoor.Pure
open Go.RowKit Go.Proofs.YticjkfacdmmopaaDoor.Ext Go.Proofs.YticjkfacdmmopaaDoor.Q Go.Proofs.YticjkfacdmmopaaDoor.Txt Go.Proofs.YticjkfacdmmopaaDoor.Face Go.Proofs.YticjkfacdmmopaaDoorW.PrintWords Go.Proofs.YticjkfacdmmopaaDoorW.PrintLast Go.Proofs.YticjkfacdmmopaaDoorW.PrintMore
set_option linter.unusedVariables false
set_option linter.unusedSimpArgs false
set_option maxRecDepth 100000
def letFits (L : List Int) (P : List Pr) (a b : ByteArray) (n m : Int) (c : Nat) : Bool := txt ((a ++ strOfNums [(c : Int)]) ++ b).data.toList && decide (offV L P ((a ++ strOfNums [(c : Int)]) ++ b) n ≤ m)
def lettersFit (L : List Int) (P : List Pr) (a b : ByteArray) (n m : Int) (c d : Nat) : List Int := ((List.range' c d).filter (letFits L P a b n m)).map fun x : Nat => (x : Int)
theorem lettersFit_succ (L : List Int) (P : List Pr) (a b : ByteArray) (n m : Int) (c d : Nat) : lettersFit L P a b n m c (d + 1) = if letFits L P a b n m c = true then (c : Int) :: lettersFit L P a b n m (c + 1) d else lettersFit L P a b n m (c + 1) d := by
  unfold lettersFit
  rw [List.range'_succ, List.filter_cons]
  split <;> rfl
theorem str_snoc (xs : List Int) (x : Int) : strOfNums xs ++ strOfNums [x] = strOfNums (xs ++ [x]) := by
  apply ByteArray.ext
  apply Array.toList_inj.1
  rw [ByteArray.data_append, Array.toList_append]
  simp [strOfNums]
theorem str_size (xs : List Int) : (strOfNums xs).size = xs.length := by
  rw [← data_length, strOfNums_data, List.length_map]
theorem sfill_l0 {L : List Int} {P : List Pr} (F : FaceOk L P) (a b : ByteArray) (ha : a.size ≤ 1048576) (hb : b.size ≤ 1048576) (n m : Int) (h0 : 0 ≤ n) (h1 : n ≤ 4000) : ∀ (d k c : Nat) (acc : List Int), c + d = 91 → d + 2097400 < k → acc.length ≤ c →
    spec_FillLetter.l0 k a b n m (strOfNums acc) c (rd L 0) (rd L 1) (rd L 2) (rd L 3) (rd L 4) (rd L 5) (rd L 6) (rd L 7) (rd L 8) (rd L 9) (rd L 10) (rd L 11) (rd L 12) (rd L 13) (rd L 14) (rd L 15) (rd L 16) (rd L 17) (rd L 18) (rd L 19) (rd L 20) (rd L 21) (rd L 22) (rd L 23) (rd L 24) (rd L 25) (rd L 26) (rd L 27) P = some (strOfNums (acc ++ lettersFit L P a b n m c d), 0)
  | 0, k, c, acc, hd, hk, hl => by
    obtain ⟨k, rfl⟩ := some_k hk
    rw [spec_FillLetter.l0, if_neg (by omega)]
    simp [lettersFit]
  | d + 1, k, c, acc, hd, hk, hl => by
    obtain ⟨k, rfl⟩ := some_k hk
    have e1 : ((c : Int) + 1) % 256 = ((c + 1 : Nat) : Int) := by omega
    have hs : ((a ++ strOfNums [(c : Int)]) ++ b).size = a.size + 1 + b.size := by rw [ByteArray.size_append, ByteArray.size_append, str_size]; rfl
    have hs1 : (a ++ strOfNums [(c : Int)]).size = a.size + 1 := by rw [ByteArray.size_append, str_size]; rfl
    have hs2 : (strOfNums [(c : Int)]).size = 1 := str_size _
    have hs3 := str_size acc
    rw [spec_FillLetter.l0, if_pos (by omega), Option.bind_some, if_pos (by omega), if_pos (by omega), off_eq F _ (by omega) n h0 h1 (by omega), Option.bind_some, in_eq, Option.bind_some, inOff_eq F _ n m h0 h1, e1, lettersFit_succ]
    have hfit : (txt ((a ++ strOfNums [(c : Int)]) ++ b).data.toList && decide (offV L P ((a ++ strOfNums [(c : Int)]) ++ b) n ≤ m)) = letFits L P a b n m c := rfl
    rw [hfit]
    cases letFits L P a b n m c
    · rw [if_neg (by simp), if_neg (by simp)]
      exact sfill_l0 F a b ha hb n m h0 h1 d k (c + 1) acc (by omega) (by omega) (by omega)
    · rw [if_pos rfl, if_pos rfl, if_pos (by omega), str_snoc, sfill_l0 F a b ha hb n m h0 h1 d k (c + 1) (acc ++ [(c : Int)]) (by omega) (by omega) (by rw [List.length_append, List.length_singleton]; omega), List.append_assoc]
      rfl
theorem ifill_l0 {L : List Int} {P : List Pr} (F : FaceOk L P) (a b : ByteArray) (ha : a.size ≤ 1048576) (hb : b.size ≤ 1048576) (n m : Int) (h0 : 0 ≤ n) (h1 : n ≤ 4000) : ∀ (d k c : Nat) (acc : List Int), c + d = 91 → d + 2097400 < k → acc.length ≤ c →
    impl_FillLetter.l0 k m acc c (rd L 0) (rd L 1) (rd L 2) (rd L 3) (rd L 4) (rd L 5) (rd L 6) (rd L 7) (rd L 8) (rd L 9) (rd L 10) (rd L 11) (rd L 12) (rd L 13) (rd L 14) (rd L 15) (rd L 16) (rd L 17) (rd L 18) (rd L 19) (rd L 20) (rd L 21) (rd L 22) (rd L 23) (rd L 24) (rd L 25) (rd L 26) (rd L 27) P a b n = some (strOfNums (acc ++ lettersFit L P a b n m c d), 0)
  | 0, k, c, acc, hd, hk, hl => by
    obtain ⟨k, rfl⟩ := some_k hk
    rw [impl_FillLetter.l0, if_neg (by omega)]
    simp [lettersFit]
  | d + 1, k, c, acc, hd, hk, hl => by
    obtain ⟨k, rfl⟩ := some_k hk
    have e1 : ((c : Int) + 1) % 256 = ((c + 1 : Nat) : Int) := by omega
    have hs2 : (strOfNums [(c : Int)]).size = 1 := str_size _
    rw [impl_FillLetter.l0, if_pos (by omega), fits_eq F a b _ (by omega) n m h0 h1 (by omega), Option.bind_some, e1, lettersFit_succ]
    have hfit : (txt ((a ++ strOfNums [(c : Int)]) ++ b).data.toList && decide (offV L P ((a ++ strOfNums [(c : Int)]) ++ b) n ≤ m)) = letFits L P a b n m c := rfl
    rw [hfit]
    cases letFits L P a b n m c
    · rw [if_neg (by simp), if_neg (by simp)]
      exact ifill_l0 F a b ha hb n m h0 h1 d k (c + 1) acc (by omega) (by omega) (by omega)
    · rw [if_pos rfl, if_pos rfl, if_pos (by omega), ifill_l0 F a b ha hb n m h0 h1 d k (c + 1) (acc ++ [(c : Int)]) (by omega) (by omega) (by rw [List.length_append, List.length_singleton]; omega), List.append_assoc]
      rfl
def fillLetterC (L : List Int) (P : List Pr) (a b : ByteArray) (n m : Int) : ByteArray × Int := if gapC L P a b [] n m = 0 then (strOfNums (lettersFit L P a b n m 65 26), 0) else ((⟨#[]⟩ : ByteArray), gapC L P a b [] n m)
theorem impl_FillLetter_eq {L : List Int} {P : List Pr} (hl : L.length = 28) (hr : rngB L P = true) (a b : ByteArray) (ha : a.size ≤ 1048576) (hb : b.size ≤ 1048576) (n m : Int) {k : Nat} (hk : 2097500 < k) : impl_FillLetter.f k (rd L 0) (rd L 1) (rd L 2) (rd L 3) (rd L 4) (rd L 5) (rd L 6) (rd L 7) (rd L 8) (rd L 9) (rd L 10) (rd L 11) (rd L 12) (rd L 13) (rd L 14) (rd L 15) (rd L 16) (rd L 17) (rd L 18) (rd L 19) (rd L 20) (rd L 21) (rd L 22) (rd L 23) (rd L 24) (rd L 25) (rd L 26) (rd L 27) P a b n m = some (fillLetterC L P a b n m) := by
  unfold impl_FillLetter.f fillLetterC
  rw [gapCode_eq hl hr a b ha hb [] n m (by omega), Option.bind_some]
  by_cases hz : gapC L P a b [] n m = 0
  · obtain ⟨hf, _, h0, h1⟩ := gapC_zero hz
    have h := ifill_l0 (faceOk hl hr hf) a b ha hb n m h0.1 h0.2 26 k 65 [] (by omega) (by omega) (by simp)
    rw [if_pos hz, if_pos hz]
    exact h
  · rw [if_neg hz, if_neg hz]
theorem spec_FillLetter_eq {L : List Int} {P : List Pr} (hl : L.length = 28) (hr : rngB L P = true) (a b : ByteArray) (ha : a.size ≤ 1048576) (hb : b.size ≤ 1048576) (n m : Int) {k : Nat} (hk : 2097500 < k) : spec_FillLetter.f k (rd L 0) (rd L 1) (rd L 2) (rd L 3) (rd L 4) (rd L 5) (rd L 6) (rd L 7) (rd L 8) (rd L 9) (rd L 10) (rd L 11) (rd L 12) (rd L 13) (rd L 14) (rd L 15) (rd L 16) (rd L 17) (rd L 18) (rd L 19) (rd L 20) (rd L 21) (rd L 22) (rd L 23) (rd L 24) (rd L 25) (rd L 26) (rd L 27) P a b n m = some (fillLetterC L P a b n m) := by
  unfold spec_FillLetter.f fillLetterC
  rw [l04Asked_eq hl hr a b ha hb [] (by simp) (by simp) n m (by omega), Option.bind_some]
  by_cases hz : gapC L P a b [] n m = 0
  · obtain ⟨hf, _, h0, h1⟩ := gapC_zero hz
    have h := sfill_l0 (faceOk hl hr hf) a b ha hb n m h0.1 h0.2 26 k 65 [] (by omega) (by omega) (by simp)
    rw [if_pos hz, if_pos hz]
    exact h
  · rw [if_neg hz, if_neg hz]
theorem fillLetter_law (L : List Int) (hl : L.length = 28) (lp : List LP) (hlp : lp.length ≤ 9223372036854775807) (hr : rngB L (lp.map toP) = true) (a b : ByteArray) (n m : Int) : ∃ k, laws_FnExactFillLetter.f k (rd L 0) (rd L 1) (rd L 2) (rd L 3) (rd L 4) (rd L 5) (rd L 6) (rd L 7) (rd L 8) (rd L 9) (rd L 10) (rd L 11) (rd L 12) (rd L 13) (rd L 14) (rd L 15) (rd L 16) (rd L 17) (rd L 18) (rd L 19) (rd L 20) (rd L 21) (rd L 22) (rd L 23) (rd L 24) (rd L 25) (rd L 26) (rd L 27) lp a b n m = some true := by
  obtain ⟨K, hK⟩ : ∃ K, K = 3000000 := ⟨_, rfl⟩
  refine ⟨K + 1, ?_⟩
  unfold laws_FnExactFillLetter.f
  by_cases h1 : a.size > 1048576
  · rw [if_pos (by omega)]
  rw [if_neg (by omega)]
  by_cases h3 : b.size > 1048576
  · rw [if_pos (by omega)]
  rw [if_neg (by omega), szFace_eq L lp hlp, Option.bind_some]
  by_cases h2 : 1048576 < lp.length
  · rw [if_pos h2, if_pos (by omega)]
  rw [if_neg h2, if_neg (by omega)]
  simp only [toFace_eq L lp (by omega), Option.bind_some, spec_FillLetter_eq hl hr a b (by omega) (by omega) n m (by omega : 2097500 < K + 1), impl_FillLetter_eq hl hr a b (by omega) (by omega) n m (by omega : 2097500 < K + 1), if_true, bne_self_eq_false, laws_FnExactFillLetter.j0, Bool.false_eq_true, if_false, eqFace_self L _ (size_le (by omega : lp.length ≤ 1048576)) (by omega : 1048577 < K)]
theorem faceV_all (L : List Int) (hl : L.length = 28) (A : Option Addr) (n c : Nat) : faceV L A n c = #[.int .i8 (rd L 0), .int .i8 (rd L 1), .int .i8 (rd L 2), .int .i8 (rd L 3), .int .i8 (rd L 4), .int .i8 (rd L 5), .int .i8 (rd L 6), .int .i8 (rd L 7), .int .i8 (rd L 8), .int .i8 (rd L 9), .int .i8 (rd L 10), .int .i8 (rd L 11), .int .i8 (rd L 12), .int .i8 (rd L 13), .int .i8 (rd L 14), .int .i8 (rd L 15), .int .i8 (rd L 16), .int .i8 (rd L 17), .int .i8 (rd L 18), .int .i8 (rd L 19), .int .i8 (rd L 20), .int .i8 (rd L 21), .int .i8 (rd L 22), .int .i8 (rd L 23), .int .i8 (rd L 24), .int .i8 (rd L 25), .int .i8 (rd L 26), .int .i8 (rd L 27), .slice A n c] := by
  have e : faceV [rd L 0, rd L 1, rd L 2, rd L 3, rd L 4, rd L 5, rd L 6, rd L 7, rd L 8, rd L 9, rd L 10, rd L 11, rd L 12, rd L 13, rd L 14, rd L 15, rd L 16, rd L 17, rd L 18, rd L 19, rd L 20, rd L 21, rd L 22, rd L 23, rd L 24, rd L 25, rd L 26, rd L 27] A n c = #[.int .i8 (rd L 0), .int .i8 (rd L 1), .int .i8 (rd L 2), .int .i8 (rd L 3), .int .i8 (rd L 4), .int .i8 (rd L 5), .int .i8 (rd L 6), .int .i8 (rd L 7), .int .i8 (rd L 8), .int .i8 (rd L 9), .int .i8 (rd L 10), .int .i8 (rd L 11), .int .i8 (rd L 12), .int .i8 (rd L 13), .int .i8 (rd L 14), .int .i8 (rd L 15), .int .i8 (rd L 16), .int .i8 (rd L 17), .int .i8 (rd L 18), .int .i8 (rd L 19), .int .i8 (rd L 20), .int .i8 (rd L 21), .int .i8 (rd L 22), .int .i8 (rd L 23), .int .i8 (rd L 24), .int .i8 (rd L 25), .int .i8 (rd L 26), .int .i8 (rd L 27), .slice A n c] := rfl
  rwa [all28 L hl] at e
theorem rng_of {L : List Int} {P : List LP} (hb : ∀ y ∈ L, -128 ≤ y ∧ y ≤ 127) (hp : ∀ p ∈ P, (0 ≤ p.f0 ∧ p.f0 ≤ 255) ∧ (0 ≤ p.f1 ∧ p.f1 ≤ 255) ∧ (-128 ≤ p.f2 ∧ p.f2 ≤ 127)) : rngB L (P.map toP) = true := by
  unfold rngB
  rw [Bool.and_eq_true, List.all_eq_true, List.all_eq_true]
  refine ⟨fun y hy => inB_iff.2 (hb y hy), fun p hq => ?_⟩
  rw [List.mem_map] at hq
  obtain ⟨q, hq, rfl⟩ := hq
  have h := hp q hq
  rw [Bool.and_eq_true, Bool.and_eq_true]
  exact ⟨⟨inB_iff.2 h.1, inB_iff.2 h.2.1⟩, inB_iff.2 h.2.2⟩
theorem fillLetter_walk (L : List Int) (hl : L.length = 28) (hb : ∀ y ∈ L, -128 ≤ y ∧ y ≤ 127) (A : Option Addr) (c : Nat) (P : List LP) (hc : P.length ≤ c) (hm : c ≤ maxLen) (hp : ∀ p ∈ P, (0 ≤ p.f0 ∧ p.f0 ≤ 255) ∧ (0 ≤ p.f1 ∧ p.f1 ≤ 255) ∧ (-128 ≤ p.f2 ∧ p.f2 ≤ 127)) (s0 : ByteArray) (s1 : ByteArray) (n2 : Int) (n3 : Int) (w : World) (hr : Kd.C kLP w A P.length P) (hM : GlobM w) :
    Calls Tryd.prog 9 #[.agg (faceV L A P.length c), .string s0, .string s1, .int .i64 n2, .int .i64 n3] w fun e w' => e = .returned (.bool true) ∧ Below w.heap.size w w' := by
  obtain ⟨k, hk⟩ := fillLetter_law L hl P (by unfold maxLen at hm; omega) (rng_of hb hp) s0 s1 n2 n3
  have h := laws_FnExactFillLetter.calls k (rd L 0) (rd L 1) (rd L 2) (rd L 3) (rd L 4) (rd L 5) (rd L 6) (rd L 7) (rd L 8) (rd L 9) (rd L 10) (rd L 11) (rd L 12) (rd L 13) (rd L 14) (rd L 15) (rd L 16) (rd L 17) (rd L 18) (rd L 19) (rd L 20) (rd L 21) (rd L 22) (rd L 23) (rd L 24) (rd L 25) (rd L 26) (rd L 27) A c P s0 s1 n2 n3 true w hr hc hM hk
  rw [faceV_all L hl A P.length c]
  exact h
end Go.Proofs.YticjkfacdmmopaaDoor.Pure
namespace Go.Proofs.YticjkfacdmmopaaDoor.Open
open Go.ChangeShapes Go.WideShapes Go.ChangeAt Go.RowKit Go.Deep Go.Proofs.YticjkfacdmmopaaDoor.Ext Go.Proofs.YticjkfacdmmopaaDoor.Face Go.Proofs.YticjkfacdmmopaaDoorW.PrintWords
set_option linter.unusedVariables false
set_option linter.unusedSimpArgs false
variable {H : Type} {enc : TypeId × Value → H} {P : Program} {w : World} {spare : Nat → Bool} {held : Bool} {t : TypeId}
instance : Inhabited LP := ⟨⟨0, 0, 0⟩⟩
theorem open_pairs {t e : TypeId} {f0 f1 f2 : Field} {fuel : Nat} {cs : List Value} {x : DataW H × List MemPlace} (ht : P.underlying t = some (.slice e)) (he : P.underlying e = some (.struct #[f0, f1, f2])) (ce : P.cellsOf e = 3) (o0 : f0.offset = 0) (o1 : f1.offset = 1) (o2 : f2.offset = 2) (c0 : P.cellsOf f0.type = 1) (c1 : P.cellsOf f1.type = 1) (c2 : P.cellsOf f2.type = 1)
    (u0 : P.underlying f0.type = some (.int .u8)) (u1 : P.underlying f1.type = some (.int .u8)) (u2 : P.underlying f2.type = some (.int .i8))
    (h : DataW.trod enc P w 0 spare held fuel t cs = some x) :
    ∃ (A : Option Addr) (c : Nat) (ps : List LP), cs = [.slice A ps.length c] ∧ ps.length ≤ c ∧ c ≤ maxLen ∧ Kd.C kLP w A ps.length ps ∧ ∀ p ∈ ps, (0 ≤ p.f0 ∧ p.f0 ≤ 255) ∧ (0 ≤ p.f1 ∧ p.f1 ≤ 255) ∧ (-128 ≤ p.f2 ∧ p.f2 ≤ 127) := by
  rcases open_slice ht h with ⟨rfl, _⟩ | ⟨a, len, cap, m, n, D, Pl, rfl, hb, hl, hm, hmm, rfl, hx⟩
  · exact ⟨none, 0, [], rfl, Nat.le_refl _, Nat.zero_le _, ⟨rfl, by simp, fun hp => absurd hp (by simp)⟩, by simp⟩
  have hlm : len ≤ m := by rw [hmm]; split <;> omega
  have each : ∀ i, i < len → ∃ q : LP, (w.cell? (a.add (i * 3)) = some (.int .u8 q.f0) ∧ w.cell? (a.add (i * 3 + 1)) = some (.int .u8 q.f1) ∧ w.cell? (a.add (i * 3 + 2)) = some (.int .i8 q.f2)) ∧ (0 ≤ q.f0 ∧ q.f0 ≤ 255) ∧ (0 ≤ q.f1 ∧ q.f1 ≤ 255) ∧ (-128 ≤ q.f2 ∧ q.f2 ≤ 127) := by
    intro i hi
    obtain ⟨cs', h1, h2⟩ := hx i (by omega)
    rw [ce] at h1
    obtain ⟨_, hlen, hcell⟩ := World.cells?_some h1
    obtain ⟨xs, k, hk, hxy, _, hxl, hf⟩ := DataW.trod_struct he h2
    match xs, hxl, cs', hlen with
    | [y0, y1, y2], _, [v0, v1, v2], _ =>
      have g0 := hf 0 f0 rfl
      have g1 := hf 1 f1 rfl
      have g2 := hf 2 f2 rfl
      simp [o0, o1, o2, c0, c1, c2] at g0 g1 g2
      obtain ⟨z0, q0, _, w0⟩ := DataW.trod_int u0 g0
      obtain ⟨z1, q1, _, w1⟩ := DataW.trod_int u1 g1
      obtain ⟨z2, q2, _, w2⟩ := DataW.trod_int u2 g2
      obtain rfl : v0 = .int .u8 z0 := by simpa using q0
      obtain rfl : v1 = .int .u8 z1 := by simpa using q1
      obtain rfl : v2 = .int .i8 z2 := by simpa using q2
      have e0 := hcell 0 (by omega)
      have e1 := hcell 1 (by omega)
      have e2 := hcell 2 (by omega)
      rw [Deep.add_add] at e0 e1 e2
      exact ⟨⟨z0, z1, z2⟩, ⟨by simpa using e0, by simpa using e1, by simpa using e2⟩, wf_u8 w0, wf_u8 w1, wf_i8 w2⟩
  obtain ⟨q, hq⟩ := choose_lt each
  refine ⟨some a, cap, (List.range len).map q, by simp, by simpa using hl, hm, ⟨by simp, by simp; unfold maxLen at hm; omega, fun hp => ⟨a, rfl, fun j p hj => ?_⟩⟩, ?_⟩
  · obtain ⟨hlt, rfl⟩ := List.getElem?_eq_some_iff.1 hj
    have hjl : j < len := by simpa using hlt
    obtain ⟨⟨h0, h1, h2⟩, _⟩ := hq j hjl
    refine ⟨[.int .u8 (q j).f0, .int .u8 (q j).f1, .int .i8 (q j).f2], rfl, by simpa using kLP_mk w (q j), fun i u hi => ?_⟩
    match i, hi with
    | 0, hi => simp at hi; subst hi; exact h0
    | 1, hi => simp at hi; subst hi; exact h1
    | 2, hi => simp at hi; subst hi; exact h2
  · intro p hp
    rw [List.mem_map] at hp
    obtain ⟨j, hj, rfl⟩ := hp
    exact (hq j (by simpa using hj)).2
theorem open_face {r : Reach} {b0 : Nat} {f0 f1 f2 f3 : Field} {g0 g1 g2 : Field} {e ep : TypeId} {v : Value} {d : DataW H} {p : List MemPlace} (ht : P.underlying t = some (.struct #[f0, f1, f2, f3])) (h0 : P.underlying f0.type = some (.array 26 e)) (he : P.underlying e = some (.int .i8))
    (hc : P.cellsOf e = 1) (hn : P.cellsOf f0.type = 26) (h1 : P.underlying f1.type = some (.int .i8)) (h2 : P.underlying f2.type = some (.int .i8)) (h3 : P.underlying f3.type = some (.slice ep)) (o0 : f0.offset = 0) (o1 : f1.offset = 26) (o2 : f2.offset = 27) (o3 : f3.offset = 28)
    (c1 : P.cellsOf f1.type = 1) (c2 : P.cellsOf f2.type = 1) (c3 : P.cellsOf f3.type = 1) (hC : P.cellsOf t = 29)
    (hep : P.underlying ep = some (.struct #[g0, g1, g2])) (ce : P.cellsOf ep = 3) (p0 : g0.offset = 0) (p1 : g1.offset = 1) (p2 : g2.offset = 2) (d0 : P.cellsOf g0.type = 1) (d1 : P.cellsOf g1.type = 1) (d2 : P.cellsOf g2.type = 1)
    (u0 : P.underlying g0.type = some (.int .u8)) (u1 : P.underlying g1.type = some (.int .u8)) (u2 : P.underlying g2.type = some (.int .i8))
    (hv : Value.okWide P w r b0 t v) (h : DataW.Trod enc P w 0 spare held t v d p) :
    ∃ (l : List Int) (A : Option Addr) (c : Nat) (ps : List LP), v = .agg (faceV l A ps.length c) ∧ l.length = 28 ∧ (∀ y ∈ l, -128 ≤ y ∧ y ≤ 127) ∧ ps.length ≤ c ∧ c ≤ maxLen ∧ Kd.C kLP w A ps.length ps ∧ ∀ p ∈ ps, (0 ≤ p.f0 ∧ p.f0 ≤ 255) ∧ (0 ≤ p.f1 ∧ p.f1 ≤ 255) ∧ (-128 ≤ p.f2 ∧ p.f2 ≤ 127) := by
  obtain ⟨cs, rfl, _⟩ := okWide_struct ht hv
  obtain ⟨fuel, hf⟩ := h
  obtain ⟨xs, m, _, _, hl, hxs, hi⟩ := DataW.trod_struct ht hf
  have hlen : xs.length = 4 := by simpa using hxs
  rw [hC] at hl
  have get : ∀ i, i < 4 → ∃ z, xs[i]? = some z := fun i hi' => ⟨xs[i]'(by omega), List.getElem?_eq_getElem (by omega)⟩
  have e0 := hi 0 f0 rfl
  have e1 := hi 1 f1 rfl
  have e2 := hi 2 f2 rfl
  have e3 := hi 3 f3 rfl
  obtain ⟨z0, hz0⟩ := get 0 (by omega)
  obtain ⟨z1, hz1⟩ := get 1 (by omega)
  obtain ⟨z2, hz2⟩ := get 2 (by omega)
  obtain ⟨z3, hz3⟩ := get 3 (by omega)
  rw [hz0, o0, hn, List.drop_zero] at e0
  rw [hz1, o1, c1] at e1
  rw [hz2, o2, c2] at e2
  rw [hz3, o3, c3] at e3
  obtain ⟨l, q1, q2, q3⟩ := arr_list h0 he hc hn e0
  obtain ⟨a, a1, _, a3⟩ := DataW.trod_int h1 e1
  obtain ⟨b, b1, _, b3⟩ := DataW.trod_int h2 e2
  obtain ⟨A, c, ps, s1, s2, s3, s4, s5⟩ := open_pairs h3 hep ce p0 p1 p2 d0 d1 d2 u0 u1 u2 e3
  refine ⟨l ++ [a, b], A, c, ps, ?_, by simp [q2], ?_, s2, s3, s4, s5⟩
  · have e : nums .i8 (l ++ [a, b]) ++ [.slice A ps.length c] = (Value.agg cs).cells.toList := by
      rw [nums_append, ← q1]
      have : nums .i8 [a, b] = [.int .i8 a] ++ [.int .i8 b] := rfl
      rw [this, ← a1, ← b1, ← s1]
      generalize (Value.agg cs).cells.toList = L at *
      apply List.ext_getElem?
      intro i
      simp only [List.getElem?_append, List.length_append, List.length_take, List.length_drop, List.getElem?_take, List.getElem?_drop]
      by_cases h1 : i < 26
      · rw [if_pos (by omega), if_pos (by omega), if_pos h1]
      · by_cases h2 : i = 26
        · subst h2
          rw [if_pos (by omega), if_neg (by omega), if_pos (by omega), if_pos (by omega)]
          congr 1; omega
        · by_cases h3 : i = 27
          · subst h3
            rw [if_pos (by omega), if_neg (by omega), if_neg (by omega), if_pos (by omega)]
            congr 1; omega
          · rw [if_neg (by omega)]
            by_cases h4 : i = 28
            · subst h4
              rw [if_pos (by omega)]
              congr 1; omega
            · rw [if_neg (by omega), List.getElem?_eq_none (by omega)]
    unfold faceV
    congr 1
    apply Array.toList_inj.1
    rw [Array.toList_push]
    show cs.toList = nums .i8 (l ++ [a, b]) ++ _
    rw [e]
    simp [Value.cells]
  · intro y hy
    rw [List.mem_append] at hy
    rcases hy with hy | hy
    · exact wf_i8 (q3 y hy)
    · simp at hy
      rcases hy with rfl | rfl
      · exact wf_i8 a3
      · exact wf_i8 b3
end Go.Proofs.YticjkfacdmmopaaDoor.Open
