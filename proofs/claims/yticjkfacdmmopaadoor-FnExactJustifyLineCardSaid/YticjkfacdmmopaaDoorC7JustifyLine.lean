/- Contracts and plain laws of functions of the given program; no conditions beside those in the theorems. -/
import Derived.Test.YticjkfacdmmopaaDoorC2JustifyLine
import Derived.Test.YticjkfacdmmopaaDoorC4JustifyLine
import Derived.Test.YticjkfacdmmopaaDoorC5JustifyLine
import Derived.Test.YticjkfacdmmopaaDoorC6JustifyLine
import Derived.Test.YticjkfacdmmopaaDoorC3JustifyLine
import Derived.Test.YticjkfacdmmopaaDoorC0JustifyLine
import Derived.Deep.Slices
namespace Go.Proofs.YticjkfacdmmopaaDoor.Ext
end Go.Proofs.YticjkfacdmmopaaDoor.Ext
namespace Go.Proofs.YticjkfacdmmopaaDoor.Q
open Go.Proofs.YticjkfacdmmopaaDoor.Ext
open Go.RowKit Go.Proofs.YticjkfacdmmopaaDoorW.PrintWords Go.Proofs.YticjkfacdmmopaaDoorW.PrintLast Go.Proofs.YticjkfacdmmopaaDoorW.PrintMore
attribute [local go_sem] max2_int min2_int max_two min_two max_three min_three max_four min_four
set_option linter.unusedVariables false
set_option linter.unusedSimpArgs false
mutual
def laws_FnExactJustifyLine.j0 : Nat → ByteArray → Int → List Int → Int → List Int → Int → Bool → Int → Int → Int → Int → Int → Int → Int → Int → Int → Int → Int → Int → Int → Int → Int → Int → Int → Int → Int → Int → Int → Int → Int → Int → Int → Int → Int → Int → List (S139) → Int → Int → Int → Int → Int → Int → Int → Int → Int → Int → Int → Int → Int → Int → Int → Int → Int → Int → Int → Int → Int → Int → Int → Int → Int → Int → Int → Int → List (S137) → Option (Bool)
  | 0, _, _, _, _, _, _, _, _, _, _, _, _, _, _, _, _, _, _, _, _, _, _, _, _, _, _, _, _, _, _, _, _, _, _, _, _, _, _, _, _, _, _, _, _, _, _, _, _, _, _, _, _, _, _, _, _, _, _, _, _, _, _, _, _, _ => none
  | k + 1, x1, x2, x8, x9, x11, x12, x51, x771000, x771001, x771002, x771003, x771004, x771005, x771006, x771007, x771008, x771009, x771010, x771011, x771012, x771013, x771014, x771015, x771016, x771017, x771018, x771019, x771020, x771021, x771022, x771023, x771024, x771025, x771026, x771027, x771028, x839000, x839001, x839002, x839003, x839004, x839005, x839006, x839007, x839008, x839009, x839010, x839011, x839012, x839013, x839014, x839015, x839016, x839017, x839018, x839019, x839020, x839021, x839022, x839023, x839024, x839025, x839026, x839027, x839028 => if x51 = true then (some false) else ((laws_toFace.f x771000 x771001 x771002 x771003 x771004 x771005 x771006 x771007 x771008 x771009 x771010 x771011 x771012 x771013 x771014 x771015 x771016 x771017 x771018 x771019 x771020 x771021 x771022 x771023 x771024 x771025 x771026 x771027 x771028).bind fun bt844 => ((laws_eqFace.f x839000 x839001 x839002 x839003 x839004 x839005 x839006 x839007 x839008 x839009 x839010 x839011 x839012 x839013 x839014 x839015 x839016 x839017 x839018 x839019 x839020 x839021 x839022 x839023 x839024 x839025 x839026 x839027 x839028 bt844.1 bt844.2.1 bt844.2.2.1 bt844.2.2.2.1 bt844.2.2.2.2.1 bt844.2.2.2.2.2.1 bt844.2.2.2.2.2.2.1 bt844.2.2.2.2.2.2.2.1 bt844.2.2.2.2.2.2.2.2.1 bt844.2.2.2.2.2.2.2.2.2.1 bt844.2.2.2.2.2.2.2.2.2.2.1 bt844.2.2.2.2.2.2.2.2.2.2.2.1 bt844.2.2.2.2.2.2.2.2.2.2.2.2.1 bt844.2.2.2.2.2.2.2.2.2.2.2.2.2.1 bt844.2.2.2.2.2.2.2.2.2.2.2.2.2.2.1 bt844.2.2.2.2.2.2.2.2.2.2.2.2.2.2.2.1 bt844.2.2.2.2.2.2.2.2.2.2.2.2.2.2.2.2.1 bt844.2.2.2.2.2.2.2.2.2.2.2.2.2.2.2.2.2.1 bt844.2.2.2.2.2.2.2.2.2.2.2.2.2.2.2.2.2.2.1 bt844.2.2.2.2.2.2.2.2.2.2.2.2.2.2.2.2.2.2.2.1 bt844.2.2.2.2.2.2.2.2.2.2.2.2.2.2.2.2.2.2.2.2.1 bt844.2.2.2.2.2.2.2.2.2.2.2.2.2.2.2.2.2.2.2.2.2.1 bt844.2.2.2.2.2.2.2.2.2.2.2.2.2.2.2.2.2.2.2.2.2.2.1 bt844.2.2.2.2.2.2.2.2.2.2.2.2.2.2.2.2.2.2.2.2.2.2.2.1 bt844.2.2.2.2.2.2.2.2.2.2.2.2.2.2.2.2.2.2.2.2.2.2.2.2.1 bt844.2.2.2.2.2.2.2.2.2.2.2.2.2.2.2.2.2.2.2.2.2.2.2.2.2.1 bt844.2.2.2.2.2.2.2.2.2.2.2.2.2.2.2.2.2.2.2.2.2.2.2.2.2.2.1 bt844.2.2.2.2.2.2.2.2.2.2.2.2.2.2.2.2.2.2.2.2.2.2.2.2.2.2.2.1 bt844.2.2.2.2.2.2.2.2.2.2.2.2.2.2.2.2.2.2.2.2.2.2.2.2.2.2.2.2).bind fun t875 => (if t875 = true then ((laws_markFace.f k x839000 x839001 x839002 x839003 x839004 x839005 x839006 x839007 x839008 x839009 x839010 x839011 x839012 x839013 x839014 x839015 x839016 x839017 x839018 x839019 x839020 x839021 x839022 x839023 x839024 x839025 x839026 x839027 x839028 1).bind fun bt876 => (if bt876.1 < 0 then (laws_FnExactJustifyLine.j1 k x1 x2 x8 x9 x11 true x771000 x771001 x771002 x771003 x771004 x771005 x771006 x771007 x771008 x771009 x771010 x771011 x771012 x771013 x771014 x771015 x771016 x771017 x771018 x771019 x771020 x771021 x771022 x771023 x771024 x771025 x771026 x771027 x771028) else ((laws_eqInt64S.f k x11 x8).bind fun t878 => (if t878 = true then (laws_FnExactJustifyLine.j1 k x1 x2 x8 x9 x11 (x12 != x9) x771000 x771001 x771002 x771003 x771004 x771005 x771006 x771007 x771008 x771009 x771010 x771011 x771012 x771013 x771014 x771015 x771016 x771017 x771018 x771019 x771020 x771021 x771022 x771023 x771024 x771025 x771026 x771027 x771028) else (laws_FnExactJustifyLine.j1 k x1 x2 x8 x9 x11 true x771000 x771001 x771002 x771003 x771004 x771005 x771006 x771007 x771008 x771009 x771010 x771011 x771012 x771013 x771014 x771015 x771016 x771017 x771018 x771019 x771020 x771021 x771022 x771023 x771024 x771025 x771026 x771027 x771028))))) else (some false))))
def laws_FnExactJustifyLine.j1 : Nat → ByteArray → Int → List Int → Int → List Int → Bool → Int → Int → Int → Int → Int → Int → Int → Int → Int → Int → Int → Int → Int → Int → Int → Int → Int → Int → Int → Int → Int → Int → Int → Int → Int → Int → Int → Int → List (S139) → Option (Bool)
  | 0, _, _, _, _, _, _, _, _, _, _, _, _, _, _, _, _, _, _, _, _, _, _, _, _, _, _, _, _, _, _, _, _, _, _, _ => none
  | k + 1, x1, x2, x8, x9, x11, x72, x771000, x771001, x771002, x771003, x771004, x771005, x771006, x771007, x771008, x771009, x771010, x771011, x771012, x771013, x771014, x771015, x771016, x771017, x771018, x771019, x771020, x771021, x771022, x771023, x771024, x771025, x771026, x771027, x771028 => if x72 = true then (some false) else ((laws_markInt64S.f k x11 1).bind fun bt879 => ((laws_heldInt64S.f k bt879.2 1).bind fun t881 => (if t881 < 0 then (some false) else (if t881 = bt879.1 then ((laws_toFace.f x771000 x771001 x771002 x771003 x771004 x771005 x771006 x771007 x771008 x771009 x771010 x771011 x771012 x771013 x771014 x771015 x771016 x771017 x771018 x771019 x771020 x771021 x771022 x771023 x771024 x771025 x771026 x771027 x771028).bind fun bt882 => ((impl_JustifyLine.f k bt882.1 bt882.2.1 bt882.2.2.1 bt882.2.2.2.1 bt882.2.2.2.2.1 bt882.2.2.2.2.2.1 bt882.2.2.2.2.2.2.1 bt882.2.2.2.2.2.2.2.1 bt882.2.2.2.2.2.2.2.2.1 bt882.2.2.2.2.2.2.2.2.2.1 bt882.2.2.2.2.2.2.2.2.2.2.1 bt882.2.2.2.2.2.2.2.2.2.2.2.1 bt882.2.2.2.2.2.2.2.2.2.2.2.2.1 bt882.2.2.2.2.2.2.2.2.2.2.2.2.2.1 bt882.2.2.2.2.2.2.2.2.2.2.2.2.2.2.1 bt882.2.2.2.2.2.2.2.2.2.2.2.2.2.2.2.1 bt882.2.2.2.2.2.2.2.2.2.2.2.2.2.2.2.2.1 bt882.2.2.2.2.2.2.2.2.2.2.2.2.2.2.2.2.2.1 bt882.2.2.2.2.2.2.2.2.2.2.2.2.2.2.2.2.2.2.1 bt882.2.2.2.2.2.2.2.2.2.2.2.2.2.2.2.2.2.2.2.1 bt882.2.2.2.2.2.2.2.2.2.2.2.2.2.2.2.2.2.2.2.2.1 bt882.2.2.2.2.2.2.2.2.2.2.2.2.2.2.2.2.2.2.2.2.2.1 bt882.2.2.2.2.2.2.2.2.2.2.2.2.2.2.2.2.2.2.2.2.2.2.1 bt882.2.2.2.2.2.2.2.2.2.2.2.2.2.2.2.2.2.2.2.2.2.2.2.1 bt882.2.2.2.2.2.2.2.2.2.2.2.2.2.2.2.2.2.2.2.2.2.2.2.2.1 bt882.2.2.2.2.2.2.2.2.2.2.2.2.2.2.2.2.2.2.2.2.2.2.2.2.2.1 bt882.2.2.2.2.2.2.2.2.2.2.2.2.2.2.2.2.2.2.2.2.2.2.2.2.2.2.1 bt882.2.2.2.2.2.2.2.2.2.2.2.2.2.2.2.2.2.2.2.2.2.2.2.2.2.2.2.1 bt882.2.2.2.2.2.2.2.2.2.2.2.2.2.2.2.2.2.2.2.2.2.2.2.2.2.2.2.2 x1 x2).bind fun bt913 => ((laws_eqInt64S.f k bt913.1 x8).bind fun t917 => (if t917 = true then (laws_FnExactJustifyLine.j2 k bt879.2 bt879.1 (bt913.2 != x9)) else (laws_FnExactJustifyLine.j2 k bt879.2 bt879.1 true))))) else (some false)))))
def laws_FnExactJustifyLine.j2 : Nat → List Int → Int → Bool → Option (Bool)
  | 0, _, _, _ => none
  | k + 1, x11, x14, x100 => if x100 = true then (some false) else ((laws_heldInt64S.f k x11 1).bind fun t918 => (if t918 < 0 then (some false) else (if t918 = x14 then (some true) else (some false))))
end
def laws_FnExactJustifyLine.f (k : Nat) (a0_0 a0_1 a0_2 a0_3 a0_4 a0_5 a0_6 a0_7 a0_8 a0_9 a0_10 a0_11 a0_12 a0_13 a0_14 a0_15 a0_16 a0_17 a0_18 a0_19 a0_20 a0_21 a0_22 a0_23 a0_24 a0_25 a0_26 a0_27 : Int) (l0_28 : List (S139)) (a1 : ByteArray) (a2 : Int) : Option (Bool) := if (a1.size : Int) > 1048576 then (some true) else ((laws_szFace.f a0_0 a0_1 a0_2 a0_3 a0_4 a0_5 a0_6 a0_7 a0_8 a0_9 a0_10 a0_11 a0_12 a0_13 a0_14 a0_15 a0_16 a0_17 a0_18 a0_19 a0_20 a0_21 a0_22 a0_23 a0_24 a0_25 a0_26 a0_27 l0_28 1048576).bind fun t771 => (if t771 < 0 then (some true) else ((laws_toFace.f a0_0 a0_1 a0_2 a0_3 a0_4 a0_5 a0_6 a0_7 a0_8 a0_9 a0_10 a0_11 a0_12 a0_13 a0_14 a0_15 a0_16 a0_17 a0_18 a0_19 a0_20 a0_21 a0_22 a0_23 a0_24 a0_25 a0_26 a0_27 l0_28).bind fun bt772 => ((spec_JustifyLine.f k bt772.1 bt772.2.1 bt772.2.2.1 bt772.2.2.2.1 bt772.2.2.2.2.1 bt772.2.2.2.2.2.1 bt772.2.2.2.2.2.2.1 bt772.2.2.2.2.2.2.2.1 bt772.2.2.2.2.2.2.2.2.1 bt772.2.2.2.2.2.2.2.2.2.1 bt772.2.2.2.2.2.2.2.2.2.2.1 bt772.2.2.2.2.2.2.2.2.2.2.2.1 bt772.2.2.2.2.2.2.2.2.2.2.2.2.1 bt772.2.2.2.2.2.2.2.2.2.2.2.2.2.1 bt772.2.2.2.2.2.2.2.2.2.2.2.2.2.2.1 bt772.2.2.2.2.2.2.2.2.2.2.2.2.2.2.2.1 bt772.2.2.2.2.2.2.2.2.2.2.2.2.2.2.2.2.1 bt772.2.2.2.2.2.2.2.2.2.2.2.2.2.2.2.2.2.1 bt772.2.2.2.2.2.2.2.2.2.2.2.2.2.2.2.2.2.2.1 bt772.2.2.2.2.2.2.2.2.2.2.2.2.2.2.2.2.2.2.2.1 bt772.2.2.2.2.2.2.2.2.2.2.2.2.2.2.2.2.2.2.2.2.1 bt772.2.2.2.2.2.2.2.2.2.2.2.2.2.2.2.2.2.2.2.2.2.1 bt772.2.2.2.2.2.2.2.2.2.2.2.2.2.2.2.2.2.2.2.2.2.2.1 bt772.2.2.2.2.2.2.2.2.2.2.2.2.2.2.2.2.2.2.2.2.2.2.2.1 bt772.2.2.2.2.2.2.2.2.2.2.2.2.2.2.2.2.2.2.2.2.2.2.2.2.1 bt772.2.2.2.2.2.2.2.2.2.2.2.2.2.2.2.2.2.2.2.2.2.2.2.2.2.1 bt772.2.2.2.2.2.2.2.2.2.2.2.2.2.2.2.2.2.2.2.2.2.2.2.2.2.2.1 bt772.2.2.2.2.2.2.2.2.2.2.2.2.2.2.2.2.2.2.2.2.2.2.2.2.2.2.2.1 bt772.2.2.2.2.2.2.2.2.2.2.2.2.2.2.2.2.2.2.2.2.2.2.2.2.2.2.2.2 a1 a2).bind fun bt803 => ((laws_toFace.f a0_0 a0_1 a0_2 a0_3 a0_4 a0_5 a0_6 a0_7 a0_8 a0_9 a0_10 a0_11 a0_12 a0_13 a0_14 a0_15 a0_16 a0_17 a0_18 a0_19 a0_20 a0_21 a0_22 a0_23 a0_24 a0_25 a0_26 a0_27 l0_28).bind fun bt807 => ((impl_JustifyLine.f k bt807.1 bt807.2.1 bt807.2.2.1 bt807.2.2.2.1 bt807.2.2.2.2.1 bt807.2.2.2.2.2.1 bt807.2.2.2.2.2.2.1 bt807.2.2.2.2.2.2.2.1 bt807.2.2.2.2.2.2.2.2.1 bt807.2.2.2.2.2.2.2.2.2.1 bt807.2.2.2.2.2.2.2.2.2.2.1 bt807.2.2.2.2.2.2.2.2.2.2.2.1 bt807.2.2.2.2.2.2.2.2.2.2.2.2.1 bt807.2.2.2.2.2.2.2.2.2.2.2.2.2.1 bt807.2.2.2.2.2.2.2.2.2.2.2.2.2.2.1 bt807.2.2.2.2.2.2.2.2.2.2.2.2.2.2.2.1 bt807.2.2.2.2.2.2.2.2.2.2.2.2.2.2.2.2.1 bt807.2.2.2.2.2.2.2.2.2.2.2.2.2.2.2.2.2.1 bt807.2.2.2.2.2.2.2.2.2.2.2.2.2.2.2.2.2.2.1 bt807.2.2.2.2.2.2.2.2.2.2.2.2.2.2.2.2.2.2.2.1 bt807.2.2.2.2.2.2.2.2.2.2.2.2.2.2.2.2.2.2.2.2.1 bt807.2.2.2.2.2.2.2.2.2.2.2.2.2.2.2.2.2.2.2.2.2.1 bt807.2.2.2.2.2.2.2.2.2.2.2.2.2.2.2.2.2.2.2.2.2.2.1 bt807.2.2.2.2.2.2.2.2.2.2.2.2.2.2.2.2.2.2.2.2.2.2.2.1 bt807.2.2.2.2.2.2.2.2.2.2.2.2.2.2.2.2.2.2.2.2.2.2.2.2.1 bt807.2.2.2.2.2.2.2.2.2.2.2.2.2.2.2.2.2.2.2.2.2.2.2.2.2.1 bt807.2.2.2.2.2.2.2.2.2.2.2.2.2.2.2.2.2.2.2.2.2.2.2.2.2.2.1 bt807.2.2.2.2.2.2.2.2.2.2.2.2.2.2.2.2.2.2.2.2.2.2.2.2.2.2.2.1 bt807.2.2.2.2.2.2.2.2.2.2.2.2.2.2.2.2.2.2.2.2.2.2.2.2.2.2.2.2 a1 a2).bind fun bt839 => ((laws_eqInt64S.f k bt839.1 bt803.1).bind fun t843 => (if t843 = true then (laws_FnExactJustifyLine.j0 k a1 a2 bt803.1 bt803.2 bt839.1 bt839.2 (bt839.2 != bt803.2) a0_0 a0_1 a0_2 a0_3 a0_4 a0_5 a0_6 a0_7 a0_8 a0_9 a0_10 a0_11 a0_12 a0_13 a0_14 a0_15 a0_16 a0_17 a0_18 a0_19 a0_20 a0_21 a0_22 a0_23 a0_24 a0_25 a0_26 a0_27 l0_28 bt807.1 bt807.2.1 bt807.2.2.1 bt807.2.2.2.1 bt807.2.2.2.2.1 bt807.2.2.2.2.2.1 bt807.2.2.2.2.2.2.1 bt807.2.2.2.2.2.2.2.1 bt807.2.2.2.2.2.2.2.2.1 bt807.2.2.2.2.2.2.2.2.2.1 bt807.2.2.2.2.2.2.2.2.2.2.1 bt807.2.2.2.2.2.2.2.2.2.2.2.1 bt807.2.2.2.2.2.2.2.2.2.2.2.2.1 bt807.2.2.2.2.2.2.2.2.2.2.2.2.2.1 bt807.2.2.2.2.2.2.2.2.2.2.2.2.2.2.1 bt807.2.2.2.2.2.2.2.2.2.2.2.2.2.2.2.1 bt807.2.2.2.2.2.2.2.2.2.2.2.2.2.2.2.2.1 bt807.2.2.2.2.2.2.2.2.2.2.2.2.2.2.2.2.2.1 bt807.2.2.2.2.2.2.2.2.2.2.2.2.2.2.2.2.2.2.1 bt807.2.2.2.2.2.2.2.2.2.2.2.2.2.2.2.2.2.2.2.1 bt807.2.2.2.2.2.2.2.2.2.2.2.2.2.2.2.2.2.2.2.2.1 bt807.2.2.2.2.2.2.2.2.2.2.2.2.2.2.2.2.2.2.2.2.2.1 bt807.2.2.2.2.2.2.2.2.2.2.2.2.2.2.2.2.2.2.2.2.2.2.1 bt807.2.2.2.2.2.2.2.2.2.2.2.2.2.2.2.2.2.2.2.2.2.2.2.1 bt807.2.2.2.2.2.2.2.2.2.2.2.2.2.2.2.2.2.2.2.2.2.2.2.2.1 bt807.2.2.2.2.2.2.2.2.2.2.2.2.2.2.2.2.2.2.2.2.2.2.2.2.2.1 bt807.2.2.2.2.2.2.2.2.2.2.2.2.2.2.2.2.2.2.2.2.2.2.2.2.2.2.1 bt807.2.2.2.2.2.2.2.2.2.2.2.2.2.2.2.2.2.2.2.2.2.2.2.2.2.2.2.1 bt807.2.2.2.2.2.2.2.2.2.2.2.2.2.2.2.2.2.2.2.2.2.2.2.2.2.2.2.2) else (laws_FnExactJustifyLine.j0 k a1 a2 bt803.1 bt803.2 bt839.1 bt839.2 true a0_0 a0_1 a0_2 a0_3 a0_4 a0_5 a0_6 a0_7 a0_8 a0_9 a0_10 a0_11 a0_12 a0_13 a0_14 a0_15 a0_16 a0_17 a0_18 a0_19 a0_20 a0_21 a0_22 a0_23 a0_24 a0_25 a0_26 a0_27 l0_28 bt807.1 bt807.2.1 bt807.2.2.1 bt807.2.2.2.1 bt807.2.2.2.2.1 bt807.2.2.2.2.2.1 bt807.2.2.2.2.2.2.1 bt807.2.2.2.2.2.2.2.1 bt807.2.2.2.2.2.2.2.2.1 bt807.2.2.2.2.2.2.2.2.2.1 bt807.2.2.2.2.2.2.2.2.2.2.1 bt807.2.2.2.2.2.2.2.2.2.2.2.1 bt807.2.2.2.2.2.2.2.2.2.2.2.2.1 bt807.2.2.2.2.2.2.2.2.2.2.2.2.2.1 bt807.2.2.2.2.2.2.2.2.2.2.2.2.2.2.1 bt807.2.2.2.2.2.2.2.2.2.2.2.2.2.2.2.1 bt807.2.2.2.2.2.2.2.2.2.2.2.2.2.2.2.2.1 bt807.2.2.2.2.2.2.2.2.2.2.2.2.2.2.2.2.2.1 bt807.2.2.2.2.2.2.2.2.2.2.2.2.2.2.2.2.2.2.1 bt807.2.2.2.2.2.2.2.2.2.2.2.2.2.2.2.2.2.2.2.1 bt807.2.2.2.2.2.2.2.2.2.2.2.2.2.2.2.2.2.2.2.2.1 bt807.2.2.2.2.2.2.2.2.2.2.2.2.2.2.2.2.2.2.2.2.2.1 bt807.2.2.2.2.2.2.2.2.2.2.2.2.2.2.2.2.2.2.2.2.2.2.1 bt807.2.2.2.2.2.2.2.2.2.2.2.2.2.2.2.2.2.2.2.2.2.2.2.1 bt807.2.2.2.2.2.2.2.2.2.2.2.2.2.2.2.2.2.2.2.2.2.2.2.2.1 bt807.2.2.2.2.2.2.2.2.2.2.2.2.2.2.2.2.2.2.2.2.2.2.2.2.2.1 bt807.2.2.2.2.2.2.2.2.2.2.2.2.2.2.2.2.2.2.2.2.2.2.2.2.2.2.1 bt807.2.2.2.2.2.2.2.2.2.2.2.2.2.2.2.2.2.2.2.2.2.2.2.2.2.2.2.1 bt807.2.2.2.2.2.2.2.2.2.2.2.2.2.2.2.2.2.2.2.2.2.2.2.2.2.2.2.2)))))))))
theorem laws_FnExactJustifyLine.mono_l : ∀ k, (∀ y0 y1 y2 y3 y4 y5 y6 y7 y8 y9 y10 y11 y12 y13 y14 y15 y16 y17 y18 y19 y20 y21 y22 y23 y24 y25 y26 y27 y28 y29 y30 y31 y32 y33 y34 y35 y36 y37 y38 y39 y40 y41 y42 y43 y44 y45 y46 y47 y48 y49 y50 y51 y52 y53 y54 y55 y56 y57 y58 y59 y60 y61 y62 y63 y64, LeO (laws_FnExactJustifyLine.j0 k y0 y1 y2 y3 y4 y5 y6 y7 y8 y9 y10 y11 y12 y13 y14 y15 y16 y17 y18 y19 y20 y21 y22 y23 y24 y25 y26 y27 y28 y29 y30 y31 y32 y33 y34 y35 y36 y37 y38 y39 y40 y41 y42 y43 y44 y45 y46 y47 y48 y49 y50 y51 y52 y53 y54 y55 y56 y57 y58 y59 y60 y61 y62 y63 y64) (laws_FnExactJustifyLine.j0 (k + 1) y0 y1 y2 y3 y4 y5 y6 y7 y8 y9 y10 y11 y12 y13 y14 y15 y16 y17 y18 y19 y20 y21 y22 y23 y24 y25 y26 y27 y28 y29 y30 y31 y32 y33 y34 y35 y36 y37 y38 y39 y40 y41 y42 y43 y44 y45 y46 y47 y48 y49 y50 y51 y52 y53 y54 y55 y56 y57 y58 y59 y60 y61 y62 y63 y64)) ∧ (∀ y0 y1 y2 y3 y4 y5 y6 y7 y8 y9 y10 y11 y12 y13 y14 y15 y16 y17 y18 y19 y20 y21 y22 y23 y24 y25 y26 y27 y28 y29 y30 y31 y32 y33 y34, LeO (laws_FnExactJustifyLine.j1 k y0 y1 y2 y3 y4 y5 y6 y7 y8 y9 y10 y11 y12 y13 y14 y15 y16 y17 y18 y19 y20 y21 y22 y23 y24 y25 y26 y27 y28 y29 y30 y31 y32 y33 y34) (laws_FnExactJustifyLine.j1 (k + 1) y0 y1 y2 y3 y4 y5 y6 y7 y8 y9 y10 y11 y12 y13 y14 y15 y16 y17 y18 y19 y20 y21 y22 y23 y24 y25 y26 y27 y28 y29 y30 y31 y32 y33 y34)) ∧ (∀ y0 y1 y2, LeO (laws_FnExactJustifyLine.j2 k y0 y1 y2) (laws_FnExactJustifyLine.j2 (k + 1) y0 y1 y2))
  | 0 => ⟨fun _ _ _ _ _ _ _ _ _ _ _ _ _ _ _ _ _ _ _ _ _ _ _ _ _ _ _ _ _ _ _ _ _ _ _ _ _ _ _ _ _ _ _ _ _ _ _ _ _ _ _ _ _ _ _ _ _ _ _ _ _ _ _ _ _ r h => by simp [laws_FnExactJustifyLine.j0] at h, fun _ _ _ _ _ _ _ _ _ _ _ _ _ _ _ _ _ _ _ _ _ _ _ _ _ _ _ _ _ _ _ _ _ _ _ r h => by simp [laws_FnExactJustifyLine.j1] at h, fun _ _ _ r h => by simp [laws_FnExactJustifyLine.j2] at h⟩
  | k + 1 => by
    obtain ⟨ih0, ih1, ih2⟩ := laws_FnExactJustifyLine.mono_l k
    refine ⟨?_, ?_, ?_⟩
    · intro y0 y1 y2 y3 y4 y5 y6 y7 y8 y9 y10 y11 y12 y13 y14 y15 y16 y17 y18 y19 y20 y21 y22 y23 y24 y25 y26 y27 y28 y29 y30 y31 y32 y33 y34 y35 y36 y37 y38 y39 y40 y41 y42 y43 y44 y45 y46 y47 y48 y49 y50 y51 y52 y53 y54 y55 y56 y57 y58 y59 y60 y61 y62 y63 y64
      unfold laws_FnExactJustifyLine.j0
      repeat' first
      | (with_reducible exact ih0 _ _ _ _ _ _ _ _ _ _ _ _ _ _ _ _ _ _ _ _ _ _ _ _ _ _ _ _ _ _ _ _ _ _ _ _ _ _ _ _ _ _ _ _ _ _ _ _ _ _ _ _ _ _ _ _ _ _ _ _ _ _ _ _ _)
      | (with_reducible exact ih1 _ _ _ _ _ _ _ _ _ _ _ _ _ _ _ _ _ _ _ _ _ _ _ _ _ _ _ _ _ _ _ _ _ _ _)
      | (with_reducible exact ih2 _ _ _)
      | (with_reducible exact impl_JustifyLine.mono _ _ _ _ _ _ _ _ _ _ _ _ _ _ _ _ _ _ _ _ _ _ _ _ _ _ _ _ _ _ _ _)
      | (with_reducible exact laws_eqInt64S.mono _ _ _)
      | (with_reducible exact laws_heldInt64S.mono _ _ _)
      | (with_reducible exact laws_markFace.mono _ _ _ _ _ _ _ _ _ _ _ _ _ _ _ _ _ _ _ _ _ _ _ _ _ _ _ _ _ _ _)
      | (with_reducible exact laws_markInt64S.mono _ _ _)
      | (with_reducible exact spec_JustifyLine.mono _ _ _ _ _ _ _ _ _ _ _ _ _ _ _ _ _ _ _ _ _ _ _ _ _ _ _ _ _ _ _ _)
      | (with_reducible exact LeO.refl _)
      | (with_reducible exact LeO.none _)
      | (with_reducible refine LeO.ite ?_ ?_)
      | (with_reducible refine LeO.bind ?_ (fun _ => ?_))
      | exact ih0 _ _ _ _ _ _ _ _ _ _ _ _ _ _ _ _ _ _ _ _ _ _ _ _ _ _ _ _ _ _ _ _ _ _ _ _ _ _ _ _ _ _ _ _ _ _ _ _ _ _ _ _ _ _ _ _ _ _ _ _ _ _ _ _ _
      | exact ih1 _ _ _ _ _ _ _ _ _ _ _ _ _ _ _ _ _ _ _ _ _ _ _ _ _ _ _ _ _ _ _ _ _ _ _
      | exact ih2 _ _ _
      | exact impl_JustifyLine.mono _ _ _ _ _ _ _ _ _ _ _ _ _ _ _ _ _ _ _ _ _ _ _ _ _ _ _ _ _ _ _ _
      | exact laws_eqInt64S.mono _ _ _
      | exact laws_heldInt64S.mono _ _ _
      | exact laws_markFace.mono _ _ _ _ _ _ _ _ _ _ _ _ _ _ _ _ _ _ _ _ _ _ _ _ _ _ _ _ _ _ _
      | exact laws_markInt64S.mono _ _ _
      | exact spec_JustifyLine.mono _ _ _ _ _ _ _ _ _ _ _ _ _ _ _ _ _ _ _ _ _ _ _ _ _ _ _ _ _ _ _ _
      | exact LeO.none _
      | refine LeO.ite ?_ ?_
      | refine LeO.bind ?_ (fun _ => ?_)
    · intro y0 y1 y2 y3 y4 y5 y6 y7 y8 y9 y10 y11 y12 y13 y14 y15 y16 y17 y18 y19 y20 y21 y22 y23 y24 y25 y26 y27 y28 y29 y30 y31 y32 y33 y34
      unfold laws_FnExactJustifyLine.j1
      repeat' first
      | (with_reducible exact ih0 _ _ _ _ _ _ _ _ _ _ _ _ _ _ _ _ _ _ _ _ _ _ _ _ _ _ _ _ _ _ _ _ _ _ _ _ _ _ _ _ _ _ _ _ _ _ _ _ _ _ _ _ _ _ _ _ _ _ _ _ _ _ _ _ _)
      | (with_reducible exact ih1 _ _ _ _ _ _ _ _ _ _ _ _ _ _ _ _ _ _ _ _ _ _ _ _ _ _ _ _ _ _ _ _ _ _ _)
      | (with_reducible exact ih2 _ _ _)
      | (with_reducible exact impl_JustifyLine.mono _ _ _ _ _ _ _ _ _ _ _ _ _ _ _ _ _ _ _ _ _ _ _ _ _ _ _ _ _ _ _ _)
      | (with_reducible exact laws_eqInt64S.mono _ _ _)
      | (with_reducible exact laws_heldInt64S.mono _ _ _)
      | (with_reducible exact laws_markFace.mono _ _ _ _ _ _ _ _ _ _ _ _ _ _ _ _ _ _ _ _ _ _ _ _ _ _ _ _ _ _ _)
      | (with_reducible exact laws_markInt64S.mono _ _ _)
      | (with_reducible exact spec_JustifyLine.mono _ _ _ _ _ _ _ _ _ _ _ _ _ _ _ _ _ _ _ _ _ _ _ _ _ _ _ _ _ _ _ _)
      | (with_reducible exact LeO.refl _)
      | (with_reducible exact LeO.none _)
      | (with_reducible refine LeO.ite ?_ ?_)
      | (with_reducible refine LeO.bind ?_ (fun _ => ?_))
      | exact ih0 _ _ _ _ _ _ _ _ _ _ _ _ _ _ _ _ _ _ _ _ _ _ _ _ _ _ _ _ _ _ _ _ _ _ _ _ _ _ _ _ _ _ _ _ _ _ _ _ _ _ _ _ _ _ _ _ _ _ _ _ _ _ _ _ _
      | exact ih1 _ _ _ _ _ _ _ _ _ _ _ _ _ _ _ _ _ _ _ _ _ _ _ _ _ _ _ _ _ _ _ _ _ _ _
      | exact ih2 _ _ _
      | exact impl_JustifyLine.mono _ _ _ _ _ _ _ _ _ _ _ _ _ _ _ _ _ _ _ _ _ _ _ _ _ _ _ _ _ _ _ _
      | exact laws_eqInt64S.mono _ _ _
      | exact laws_heldInt64S.mono _ _ _
      | exact laws_markFace.mono _ _ _ _ _ _ _ _ _ _ _ _ _ _ _ _ _ _ _ _ _ _ _ _ _ _ _ _ _ _ _
      | exact laws_markInt64S.mono _ _ _
      | exact spec_JustifyLine.mono _ _ _ _ _ _ _ _ _ _ _ _ _ _ _ _ _ _ _ _ _ _ _ _ _ _ _ _ _ _ _ _
      | exact LeO.none _
      | refine LeO.ite ?_ ?_
      | refine LeO.bind ?_ (fun _ => ?_)
    · intro y0 y1 y2
      unfold laws_FnExactJustifyLine.j2
      repeat' first
      | (with_reducible exact ih0 _ _ _ _ _ _ _ _ _ _ _ _ _ _ _ _ _ _ _ _ _ _ _ _ _ _ _ _ _ _ _ _ _ _ _ _ _ _ _ _ _ _ _ _ _ _ _ _ _ _ _ _ _ _ _ _ _ _ _ _ _ _ _ _ _)
      | (with_reducible exact ih1 _ _ _ _ _ _ _ _ _ _ _ _ _ _ _ _ _ _ _ _ _ _ _ _ _ _ _ _ _ _ _ _ _ _ _)
      | (with_reducible exact ih2 _ _ _)
      | (with_reducible exact impl_JustifyLine.mono _ _ _ _ _ _ _ _ _ _ _ _ _ _ _ _ _ _ _ _ _ _ _ _ _ _ _ _ _ _ _ _)
      | (with_reducible exact laws_eqInt64S.mono _ _ _)
      | (with_reducible exact laws_heldInt64S.mono _ _ _)
      | (with_reducible exact laws_markFace.mono _ _ _ _ _ _ _ _ _ _ _ _ _ _ _ _ _ _ _ _ _ _ _ _ _ _ _ _ _ _ _)
      | (with_reducible exact laws_markInt64S.mono _ _ _)
      | (with_reducible exact spec_JustifyLine.mono _ _ _ _ _ _ _ _ _ _ _ _ _ _ _ _ _ _ _ _ _ _ _ _ _ _ _ _ _ _ _ _)
      | (with_reducible exact LeO.refl _)
      | (with_reducible exact LeO.none _)
      | (with_reducible refine LeO.ite ?_ ?_)
      | (with_reducible refine LeO.bind ?_ (fun _ => ?_))
      | exact ih0 _ _ _ _ _ _ _ _ _ _ _ _ _ _ _ _ _ _ _ _ _ _ _ _ _ _ _ _ _ _ _ _ _ _ _ _ _ _ _ _ _ _ _ _ _ _ _ _ _ _ _ _ _ _ _ _ _ _ _ _ _ _ _ _ _
      | exact ih1 _ _ _ _ _ _ _ _ _ _ _ _ _ _ _ _ _ _ _ _ _ _ _ _ _ _ _ _ _ _ _ _ _ _ _
      | exact ih2 _ _ _
      | exact impl_JustifyLine.mono _ _ _ _ _ _ _ _ _ _ _ _ _ _ _ _ _ _ _ _ _ _ _ _ _ _ _ _ _ _ _ _
      | exact laws_eqInt64S.mono _ _ _
      | exact laws_heldInt64S.mono _ _ _
      | exact laws_markFace.mono _ _ _ _ _ _ _ _ _ _ _ _ _ _ _ _ _ _ _ _ _ _ _ _ _ _ _ _ _ _ _
      | exact laws_markInt64S.mono _ _ _
      | exact spec_JustifyLine.mono _ _ _ _ _ _ _ _ _ _ _ _ _ _ _ _ _ _ _ _ _ _ _ _ _ _ _ _ _ _ _ _
      | exact LeO.none _
      | refine LeO.ite ?_ ?_
      | refine LeO.bind ?_ (fun _ => ?_)
theorem laws_FnExactJustifyLine.mono : ∀ a0 a1 a2 a3 a4 a5 a6 a7 a8 a9 a10 a11 a12 a13 a14 a15 a16 a17 a18 a19 a20 a21 a22 a23 a24 a25 a26 a27 a28 a29 a30 k, LeO (laws_FnExactJustifyLine.f k a0 a1 a2 a3 a4 a5 a6 a7 a8 a9 a10 a11 a12 a13 a14 a15 a16 a17 a18 a19 a20 a21 a22 a23 a24 a25 a26 a27 a28 a29 a30) (laws_FnExactJustifyLine.f (k + 1) a0 a1 a2 a3 a4 a5 a6 a7 a8 a9 a10 a11 a12 a13 a14 a15 a16 a17 a18 a19 a20 a21 a22 a23 a24 a25 a26 a27 a28 a29 a30) := by
  intro a0 a1 a2 a3 a4 a5 a6 a7 a8 a9 a10 a11 a12 a13 a14 a15 a16 a17 a18 a19 a20 a21 a22 a23 a24 a25 a26 a27 a28 a29 a30 k
  obtain ⟨ih0, ih1, ih2⟩ := laws_FnExactJustifyLine.mono_l k
  unfold laws_FnExactJustifyLine.f
  repeat' first
      | (with_reducible exact ih0 _ _ _ _ _ _ _ _ _ _ _ _ _ _ _ _ _ _ _ _ _ _ _ _ _ _ _ _ _ _ _ _ _ _ _ _ _ _ _ _ _ _ _ _ _ _ _ _ _ _ _ _ _ _ _ _ _ _ _ _ _ _ _ _ _)
      | (with_reducible exact ih1 _ _ _ _ _ _ _ _ _ _ _ _ _ _ _ _ _ _ _ _ _ _ _ _ _ _ _ _ _ _ _ _ _ _ _)
      | (with_reducible exact ih2 _ _ _)
      | (with_reducible exact impl_JustifyLine.mono _ _ _ _ _ _ _ _ _ _ _ _ _ _ _ _ _ _ _ _ _ _ _ _ _ _ _ _ _ _ _ _)
      | (with_reducible exact laws_eqInt64S.mono _ _ _)
      | (with_reducible exact laws_heldInt64S.mono _ _ _)
      | (with_reducible exact laws_markFace.mono _ _ _ _ _ _ _ _ _ _ _ _ _ _ _ _ _ _ _ _ _ _ _ _ _ _ _ _ _ _ _)
      | (with_reducible exact laws_markInt64S.mono _ _ _)
      | (with_reducible exact spec_JustifyLine.mono _ _ _ _ _ _ _ _ _ _ _ _ _ _ _ _ _ _ _ _ _ _ _ _ _ _ _ _ _ _ _ _)
      | (with_reducible exact LeO.refl _)
      | (with_reducible exact LeO.none _)
      | (with_reducible refine LeO.ite ?_ ?_)
      | (with_reducible refine LeO.bind ?_ (fun _ => ?_))
      | exact ih0 _ _ _ _ _ _ _ _ _ _ _ _ _ _ _ _ _ _ _ _ _ _ _ _ _ _ _ _ _ _ _ _ _ _ _ _ _ _ _ _ _ _ _ _ _ _ _ _ _ _ _ _ _ _ _ _ _ _ _ _ _ _ _ _ _
      | exact ih1 _ _ _ _ _ _ _ _ _ _ _ _ _ _ _ _ _ _ _ _ _ _ _ _ _ _ _ _ _ _ _ _ _ _ _
      | exact ih2 _ _ _
      | exact impl_JustifyLine.mono _ _ _ _ _ _ _ _ _ _ _ _ _ _ _ _ _ _ _ _ _ _ _ _ _ _ _ _ _ _ _ _
      | exact laws_eqInt64S.mono _ _ _
      | exact laws_heldInt64S.mono _ _ _
      | exact laws_markFace.mono _ _ _ _ _ _ _ _ _ _ _ _ _ _ _ _ _ _ _ _ _ _ _ _ _ _ _ _ _ _ _
      | exact laws_markInt64S.mono _ _ _
      | exact spec_JustifyLine.mono _ _ _ _ _ _ _ _ _ _ _ _ _ _ _ _ _ _ _ _ _ _ _ _ _ _ _ _ _ _ _ _
      | exact LeO.none _
      | refine LeO.ite ?_ ?_
      | refine LeO.bind ?_ (fun _ => ?_)
set_option maxHeartbeats 8000000 in
set_option maxRecDepth 100000 in
theorem laws_FnExactJustifyLine.calls (k : Nat) (a0_0 a0_1 a0_2 a0_3 a0_4 a0_5 a0_6 a0_7 a0_8 a0_9 a0_10 a0_11 a0_12 a0_13 a0_14 a0_15 a0_16 a0_17 a0_18 a0_19 a0_20 a0_21 a0_22 a0_23 a0_24 a0_25 a0_26 a0_27 : Int) (A0_28 : Option Addr) (c0_28 : Nat) (l0_28 : List (S139)) (a1 : ByteArray) (a2 : Int) (r : Bool) (w : World) (hr0_28 : Kd.C k139 w A0_28 l0_28.length l0_28) (hc0_28 : l0_28.length ≤ c0_28) (hG : GlobM w) (h : laws_FnExactJustifyLine.f k a0_0 a0_1 a0_2 a0_3 a0_4 a0_5 a0_6 a0_7 a0_8 a0_9 a0_10 a0_11 a0_12 a0_13 a0_14 a0_15 a0_16 a0_17 a0_18 a0_19 a0_20 a0_21 a0_22 a0_23 a0_24 a0_25 a0_26 a0_27 l0_28 a1 a2 = some r) :
    Calls Tryd.prog 7 #[.agg #[.int .i8 a0_0, .int .i8 a0_1, .int .i8 a0_2, .int .i8 a0_3, .int .i8 a0_4, .int .i8 a0_5, .int .i8 a0_6, .int .i8 a0_7, .int .i8 a0_8, .int .i8 a0_9, .int .i8 a0_10, .int .i8 a0_11, .int .i8 a0_12, .int .i8 a0_13, .int .i8 a0_14, .int .i8 a0_15, .int .i8 a0_16, .int .i8 a0_17, .int .i8 a0_18, .int .i8 a0_19, .int .i8 a0_20, .int .i8 a0_21, .int .i8 a0_22, .int .i8 a0_23, .int .i8 a0_24, .int .i8 a0_25, .int .i8 a0_26, .int .i8 a0_27, .slice A0_28 l0_28.length c0_28], .string a1, .int .i64 a2] w fun e w' => e = .returned (.bool r) ∧ Below w.heap.size w w' := by
  have HG := Aside0.mk hG
  clear hG
  have hu26 := Tryd.underlying26
  have hu32 := Tryd.underlying32
  have HR0_28 := Aside0.mk hr0_28
  have HC0_28 := Aside0.mk hc0_28
  clear hr0_28 hc0_28
  have HB := Aside0.mk (Below.refl w.heap.size w)
  have H : (if (a1.size : Int) > 1048576 then (some true) else ((laws_szFace.f a0_0 a0_1 a0_2 a0_3 a0_4 a0_5 a0_6 a0_7 a0_8 a0_9 a0_10 a0_11 a0_12 a0_13 a0_14 a0_15 a0_16 a0_17 a0_18 a0_19 a0_20 a0_21 a0_22 a0_23 a0_24 a0_25 a0_26 a0_27 l0_28 1048576).bind fun t771 => (if t771 < 0 then (some true) else ((laws_toFace.f a0_0 a0_1 a0_2 a0_3 a0_4 a0_5 a0_6 a0_7 a0_8 a0_9 a0_10 a0_11 a0_12 a0_13 a0_14 a0_15 a0_16 a0_17 a0_18 a0_19 a0_20 a0_21 a0_22 a0_23 a0_24 a0_25 a0_26 a0_27 l0_28).bind fun bt772 => ((spec_JustifyLine.f k bt772.1 bt772.2.1 bt772.2.2.1 bt772.2.2.2.1 bt772.2.2.2.2.1 bt772.2.2.2.2.2.1 bt772.2.2.2.2.2.2.1 bt772.2.2.2.2.2.2.2.1 bt772.2.2.2.2.2.2.2.2.1 bt772.2.2.2.2.2.2.2.2.2.1 bt772.2.2.2.2.2.2.2.2.2.2.1 bt772.2.2.2.2.2.2.2.2.2.2.2.1 bt772.2.2.2.2.2.2.2.2.2.2.2.2.1 bt772.2.2.2.2.2.2.2.2.2.2.2.2.2.1 bt772.2.2.2.2.2.2.2.2.2.2.2.2.2.2.1 bt772.2.2.2.2.2.2.2.2.2.2.2.2.2.2.2.1 bt772.2.2.2.2.2.2.2.2.2.2.2.2.2.2.2.2.1 bt772.2.2.2.2.2.2.2.2.2.2.2.2.2.2.2.2.2.1 bt772.2.2.2.2.2.2.2.2.2.2.2.2.2.2.2.2.2.2.1 bt772.2.2.2.2.2.2.2.2.2.2.2.2.2.2.2.2.2.2.2.1 bt772.2.2.2.2.2.2.2.2.2.2.2.2.2.2.2.2.2.2.2.2.1 bt772.2.2.2.2.2.2.2.2.2.2.2.2.2.2.2.2.2.2.2.2.2.1 bt772.2.2.2.2.2.2.2.2.2.2.2.2.2.2.2.2.2.2.2.2.2.2.1 bt772.2.2.2.2.2.2.2.2.2.2.2.2.2.2.2.2.2.2.2.2.2.2.2.1 bt772.2.2.2.2.2.2.2.2.2.2.2.2.2.2.2.2.2.2.2.2.2.2.2.2.1 bt772.2.2.2.2.2.2.2.2.2.2.2.2.2.2.2.2.2.2.2.2.2.2.2.2.2.1 bt772.2.2.2.2.2.2.2.2.2.2.2.2.2.2.2.2.2.2.2.2.2.2.2.2.2.2.1 bt772.2.2.2.2.2.2.2.2.2.2.2.2.2.2.2.2.2.2.2.2.2.2.2.2.2.2.2.1 bt772.2.2.2.2.2.2.2.2.2.2.2.2.2.2.2.2.2.2.2.2.2.2.2.2.2.2.2.2 a1 a2).bind fun bt803 => ((laws_toFace.f a0_0 a0_1 a0_2 a0_3 a0_4 a0_5 a0_6 a0_7 a0_8 a0_9 a0_10 a0_11 a0_12 a0_13 a0_14 a0_15 a0_16 a0_17 a0_18 a0_19 a0_20 a0_21 a0_22 a0_23 a0_24 a0_25 a0_26 a0_27 l0_28).bind fun bt807 => ((impl_JustifyLine.f k bt807.1 bt807.2.1 bt807.2.2.1 bt807.2.2.2.1 bt807.2.2.2.2.1 bt807.2.2.2.2.2.1 bt807.2.2.2.2.2.2.1 bt807.2.2.2.2.2.2.2.1 bt807.2.2.2.2.2.2.2.2.1 bt807.2.2.2.2.2.2.2.2.2.1 bt807.2.2.2.2.2.2.2.2.2.2.1 bt807.2.2.2.2.2.2.2.2.2.2.2.1 bt807.2.2.2.2.2.2.2.2.2.2.2.2.1 bt807.2.2.2.2.2.2.2.2.2.2.2.2.2.1 bt807.2.2.2.2.2.2.2.2.2.2.2.2.2.2.1 bt807.2.2.2.2.2.2.2.2.2.2.2.2.2.2.2.1 bt807.2.2.2.2.2.2.2.2.2.2.2.2.2.2.2.2.1 bt807.2.2.2.2.2.2.2.2.2.2.2.2.2.2.2.2.2.1 bt807.2.2.2.2.2.2.2.2.2.2.2.2.2.2.2.2.2.2.1 bt807.2.2.2.2.2.2.2.2.2.2.2.2.2.2.2.2.2.2.2.1 bt807.2.2.2.2.2.2.2.2.2.2.2.2.2.2.2.2.2.2.2.2.1 bt807.2.2.2.2.2.2.2.2.2.2.2.2.2.2.2.2.2.2.2.2.2.1 bt807.2.2.2.2.2.2.2.2.2.2.2.2.2.2.2.2.2.2.2.2.2.2.1 bt807.2.2.2.2.2.2.2.2.2.2.2.2.2.2.2.2.2.2.2.2.2.2.2.1 bt807.2.2.2.2.2.2.2.2.2.2.2.2.2.2.2.2.2.2.2.2.2.2.2.2.1 bt807.2.2.2.2.2.2.2.2.2.2.2.2.2.2.2.2.2.2.2.2.2.2.2.2.2.1 bt807.2.2.2.2.2.2.2.2.2.2.2.2.2.2.2.2.2.2.2.2.2.2.2.2.2.2.1 bt807.2.2.2.2.2.2.2.2.2.2.2.2.2.2.2.2.2.2.2.2.2.2.2.2.2.2.2.1 bt807.2.2.2.2.2.2.2.2.2.2.2.2.2.2.2.2.2.2.2.2.2.2.2.2.2.2.2.2 a1 a2).bind fun bt839 => ((laws_eqInt64S.f k bt839.1 bt803.1).bind fun t843 => (if t843 = true then (laws_FnExactJustifyLine.j0 k a1 a2 bt803.1 bt803.2 bt839.1 bt839.2 (bt839.2 != bt803.2) a0_0 a0_1 a0_2 a0_3 a0_4 a0_5 a0_6 a0_7 a0_8 a0_9 a0_10 a0_11 a0_12 a0_13 a0_14 a0_15 a0_16 a0_17 a0_18 a0_19 a0_20 a0_21 a0_22 a0_23 a0_24 a0_25 a0_26 a0_27 l0_28 bt807.1 bt807.2.1 bt807.2.2.1 bt807.2.2.2.1 bt807.2.2.2.2.1 bt807.2.2.2.2.2.1 bt807.2.2.2.2.2.2.1 bt807.2.2.2.2.2.2.2.1 bt807.2.2.2.2.2.2.2.2.1 bt807.2.2.2.2.2.2.2.2.2.1 bt807.2.2.2.2.2.2.2.2.2.2.1 bt807.2.2.2.2.2.2.2.2.2.2.2.1 bt807.2.2.2.2.2.2.2.2.2.2.2.2.1 bt807.2.2.2.2.2.2.2.2.2.2.2.2.2.1 bt807.2.2.2.2.2.2.2.2.2.2.2.2.2.2.1 bt807.2.2.2.2.2.2.2.2.2.2.2.2.2.2.2.1 bt807.2.2.2.2.2.2.2.2.2.2.2.2.2.2.2.2.1 bt807.2.2.2.2.2.2.2.2.2.2.2.2.2.2.2.2.2.1 bt807.2.2.2.2.2.2.2.2.2.2.2.2.2.2.2.2.2.2.1 bt807.2.2.2.2.2.2.2.2.2.2.2.2.2.2.2.2.2.2.2.1 bt807.2.2.2.2.2.2.2.2.2.2.2.2.2.2.2.2.2.2.2.2.1 bt807.2.2.2.2.2.2.2.2.2.2.2.2.2.2.2.2.2.2.2.2.2.1 bt807.2.2.2.2.2.2.2.2.2.2.2.2.2.2.2.2.2.2.2.2.2.2.1 bt807.2.2.2.2.2.2.2.2.2.2.2.2.2.2.2.2.2.2.2.2.2.2.2.1 bt807.2.2.2.2.2.2.2.2.2.2.2.2.2.2.2.2.2.2.2.2.2.2.2.2.1 bt807.2.2.2.2.2.2.2.2.2.2.2.2.2.2.2.2.2.2.2.2.2.2.2.2.2.1 bt807.2.2.2.2.2.2.2.2.2.2.2.2.2.2.2.2.2.2.2.2.2.2.2.2.2.2.1 bt807.2.2.2.2.2.2.2.2.2.2.2.2.2.2.2.2.2.2.2.2.2.2.2.2.2.2.2.1 bt807.2.2.2.2.2.2.2.2.2.2.2.2.2.2.2.2.2.2.2.2.2.2.2.2.2.2.2.2) else (laws_FnExactJustifyLine.j0 k a1 a2 bt803.1 bt803.2 bt839.1 bt839.2 true a0_0 a0_1 a0_2 a0_3 a0_4 a0_5 a0_6 a0_7 a0_8 a0_9 a0_10 a0_11 a0_12 a0_13 a0_14 a0_15 a0_16 a0_17 a0_18 a0_19 a0_20 a0_21 a0_22 a0_23 a0_24 a0_25 a0_26 a0_27 l0_28 bt807.1 bt807.2.1 bt807.2.2.1 bt807.2.2.2.1 bt807.2.2.2.2.1 bt807.2.2.2.2.2.1 bt807.2.2.2.2.2.2.1 bt807.2.2.2.2.2.2.2.1 bt807.2.2.2.2.2.2.2.2.1 bt807.2.2.2.2.2.2.2.2.2.1 bt807.2.2.2.2.2.2.2.2.2.2.1 bt807.2.2.2.2.2.2.2.2.2.2.2.1 bt807.2.2.2.2.2.2.2.2.2.2.2.2.1 bt807.2.2.2.2.2.2.2.2.2.2.2.2.2.1 bt807.2.2.2.2.2.2.2.2.2.2.2.2.2.2.1 bt807.2.2.2.2.2.2.2.2.2.2.2.2.2.2.2.1 bt807.2.2.2.2.2.2.2.2.2.2.2.2.2.2.2.2.1 bt807.2.2.2.2.2.2.2.2.2.2.2.2.2.2.2.2.2.1 bt807.2.2.2.2.2.2.2.2.2.2.2.2.2.2.2.2.2.2.1 bt807.2.2.2.2.2.2.2.2.2.2.2.2.2.2.2.2.2.2.2.1 bt807.2.2.2.2.2.2.2.2.2.2.2.2.2.2.2.2.2.2.2.2.1 bt807.2.2.2.2.2.2.2.2.2.2.2.2.2.2.2.2.2.2.2.2.2.1 bt807.2.2.2.2.2.2.2.2.2.2.2.2.2.2.2.2.2.2.2.2.2.2.1 bt807.2.2.2.2.2.2.2.2.2.2.2.2.2.2.2.2.2.2.2.2.2.2.2.1 bt807.2.2.2.2.2.2.2.2.2.2.2.2.2.2.2.2.2.2.2.2.2.2.2.2.1 bt807.2.2.2.2.2.2.2.2.2.2.2.2.2.2.2.2.2.2.2.2.2.2.2.2.2.1 bt807.2.2.2.2.2.2.2.2.2.2.2.2.2.2.2.2.2.2.2.2.2.2.2.2.2.2.1 bt807.2.2.2.2.2.2.2.2.2.2.2.2.2.2.2.2.2.2.2.2.2.2.2.2.2.2.2.1 bt807.2.2.2.2.2.2.2.2.2.2.2.2.2.2.2.2.2.2.2.2.2.2.2.2.2.2.2.2)))))))))) = some r := h
  clear h
  by_cases c4 : (a1.size : Int) > 1048576
  · rw [if_pos c4] at H
    have c4b0 : decide (1048576 < (a1.size : Int)) = true := decide_eq_true c4
    have c4b1 : decide (1048576 < a1.size) = true := decide_eq_true (by omega)
    clear c4
    obtain rfl := Option.some.inj H
    go_enter Tryd.func7, Tryd.ntmps7
    go_wp2_with (first | ((with_reducible refine gate_dst (N := 3) rfl ?_); refine box_event ?hg (N := 3) ?hd (cs := #[.int .i8 a0_0, .int .i8 a0_1, .int .i8 a0_2, .int .i8 a0_3, .int .i8 a0_4, .int .i8 a0_5, .int .i8 a0_6, .int .i8 a0_7, .int .i8 a0_8, .int .i8 a0_9, .int .i8 a0_10, .int .i8 a0_11, .int .i8 a0_12, .int .i8 a0_13, .int .i8 a0_14, .int .i8 a0_15, .int .i8 a0_16, .int .i8 a0_17, .int .i8 a0_18, .int .i8 a0_19, .int .i8 a0_20, .int .i8 a0_21, .int .i8 a0_22, .int .i8 a0_23, .int .i8 a0_24, .int .i8 a0_25, .int .i8 a0_26, .int .i8 a0_27, .slice A0_28 l0_28.length c0_28]) (t := 26) ?hr ?_; (case hd => rfl); (case hg => rfl); (case hr => first | (go_simp; done) | (go_simp; rfl)); intro gb770 hg w5 hbox hb; have n0_ := Aside0.mk (below_step (by repeat (first | (with_reducible first | exact HB.out | apply below_alloc | apply pw_below_drewN | apply below_drew1) | exact HB.out)) hb); have n1_ := Aside0.mk (hbox); have n2_ := Aside0.mk ((by rw [hg]; exact (below_size (by repeat (first | (with_reducible first | exact HB.out | apply below_alloc | apply pw_below_drewN | apply below_drew1) | exact HB.out))) : w.heap.size ≤ gb770)); have n3_ := Aside0.mk ((by rw [hg]; exact (below_size (by repeat (first | (with_reducible first | exact HB.out | apply below_alloc | apply pw_below_drewN | apply below_drew1) | exact HB.out))) : w.heap.size ≤ gb770)); clear HB; have HB := n0_; have BK770 := n1_; have GW770 := n2_; have GE770 := n3_; clear n0_ n1_ n2_ n3_; clear hb hbox hg))
    go_ret
    exact ⟨by first | rfl | (simp [errW_none, errW_some] <;> rfl) | (simp [*, errW_none, errW_some] <;> rfl), by repeat (first | (with_reducible first | exact HB.out | apply below_alloc | apply pw_below_drewN | apply below_drew1 | refine below_set ?_ GE770.out) | exact HB.out)⟩
  · rw [if_neg c4] at H
    have c4b0 : decide (1048576 < (a1.size : Int)) = false := decide_eq_false c4
    have c4b1 : decide (1048576 < a1.size) = false := decide_eq_false (by omega)
    clear c4
    replace H := Option.bind_eq_some_iff.mp H
    obtain ⟨t771, A60, H⟩ := H
    replace H : (if t771 < 0 then (some true) else ((laws_toFace.f a0_0 a0_1 a0_2 a0_3 a0_4 a0_5 a0_6 a0_7 a0_8 a0_9 a0_10 a0_11 a0_12 a0_13 a0_14 a0_15 a0_16 a0_17 a0_18 a0_19 a0_20 a0_21 a0_22 a0_23 a0_24 a0_25 a0_26 a0_27 l0_28).bind fun bt772 => ((spec_JustifyLine.f k bt772.1 bt772.2.1 bt772.2.2.1 bt772.2.2.2.1 bt772.2.2.2.2.1 bt772.2.2.2.2.2.1 bt772.2.2.2.2.2.2.1 bt772.2.2.2.2.2.2.2.1 bt772.2.2.2.2.2.2.2.2.1 bt772.2.2.2.2.2.2.2.2.2.1 bt772.2.2.2.2.2.2.2.2.2.2.1 bt772.2.2.2.2.2.2.2.2.2.2.2.1 bt772.2.2.2.2.2.2.2.2.2.2.2.2.1 bt772.2.2.2.2.2.2.2.2.2.2.2.2.2.1 bt772.2.2.2.2.2.2.2.2.2.2.2.2.2.2.1 bt772.2.2.2.2.2.2.2.2.2.2.2.2.2.2.2.1 bt772.2.2.2.2.2.2.2.2.2.2.2.2.2.2.2.2.1 bt772.2.2.2.2.2.2.2.2.2.2.2.2.2.2.2.2.2.1 bt772.2.2.2.2.2.2.2.2.2.2.2.2.2.2.2.2.2.2.1 bt772.2.2.2.2.2.2.2.2.2.2.2.2.2.2.2.2.2.2.2.1 bt772.2.2.2.2.2.2.2.2.2.2.2.2.2.2.2.2.2.2.2.2.1 bt772.2.2.2.2.2.2.2.2.2.2.2.2.2.2.2.2.2.2.2.2.2.1 bt772.2.2.2.2.2.2.2.2.2.2.2.2.2.2.2.2.2.2.2.2.2.2.1 bt772.2.2.2.2.2.2.2.2.2.2.2.2.2.2.2.2.2.2.2.2.2.2.2.1 bt772.2.2.2.2.2.2.2.2.2.2.2.2.2.2.2.2.2.2.2.2.2.2.2.2.1 bt772.2.2.2.2.2.2.2.2.2.2.2.2.2.2.2.2.2.2.2.2.2.2.2.2.2.1 bt772.2.2.2.2.2.2.2.2.2.2.2.2.2.2.2.2.2.2.2.2.2.2.2.2.2.2.1 bt772.2.2.2.2.2.2.2.2.2.2.2.2.2.2.2.2.2.2.2.2.2.2.2.2.2.2.2.1 bt772.2.2.2.2.2.2.2.2.2.2.2.2.2.2.2.2.2.2.2.2.2.2.2.2.2.2.2.2 a1 a2).bind fun bt803 => ((laws_toFace.f a0_0 a0_1 a0_2 a0_3 a0_4 a0_5 a0_6 a0_7 a0_8 a0_9 a0_10 a0_11 a0_12 a0_13 a0_14 a0_15 a0_16 a0_17 a0_18 a0_19 a0_20 a0_21 a0_22 a0_23 a0_24 a0_25 a0_26 a0_27 l0_28).bind fun bt807 => ((impl_JustifyLine.f k bt807.1 bt807.2.1 bt807.2.2.1 bt807.2.2.2.1 bt807.2.2.2.2.1 bt807.2.2.2.2.2.1 bt807.2.2.2.2.2.2.1 bt807.2.2.2.2.2.2.2.1 bt807.2.2.2.2.2.2.2.2.1 bt807.2.2.2.2.2.2.2.2.2.1 bt807.2.2.2.2.2.2.2.2.2.2.1 bt807.2.2.2.2.2.2.2.2.2.2.2.1 bt807.2.2.2.2.2.2.2.2.2.2.2.2.1 bt807.2.2.2.2.2.2.2.2.2.2.2.2.2.1 bt807.2.2.2.2.2.2.2.2.2.2.2.2.2.2.1 bt807.2.2.2.2.2.2.2.2.2.2.2.2.2.2.2.1 bt807.2.2.2.2.2.2.2.2.2.2.2.2.2.2.2.2.1 bt807.2.2.2.2.2.2.2.2.2.2.2.2.2.2.2.2.2.1 bt807.2.2.2.2.2.2.2.2.2.2.2.2.2.2.2.2.2.2.1 bt807.2.2.2.2.2.2.2.2.2.2.2.2.2.2.2.2.2.2.2.1 bt807.2.2.2.2.2.2.2.2.2.2.2.2.2.2.2.2.2.2.2.2.1 bt807.2.2.2.2.2.2.2.2.2.2.2.2.2.2.2.2.2.2.2.2.2.1 bt807.2.2.2.2.2.2.2.2.2.2.2.2.2.2.2.2.2.2.2.2.2.2.1 bt807.2.2.2.2.2.2.2.2.2.2.2.2.2.2.2.2.2.2.2.2.2.2.2.1 bt807.2.2.2.2.2.2.2.2.2.2.2.2.2.2.2.2.2.2.2.2.2.2.2.2.1 bt807.2.2.2.2.2.2.2.2.2.2.2.2.2.2.2.2.2.2.2.2.2.2.2.2.2.1 bt807.2.2.2.2.2.2.2.2.2.2.2.2.2.2.2.2.2.2.2.2.2.2.2.2.2.2.1 bt807.2.2.2.2.2.2.2.2.2.2.2.2.2.2.2.2.2.2.2.2.2.2.2.2.2.2.2.1 bt807.2.2.2.2.2.2.2.2.2.2.2.2.2.2.2.2.2.2.2.2.2.2.2.2.2.2.2.2 a1 a2).bind fun bt839 => ((laws_eqInt64S.f k bt839.1 bt803.1).bind fun t843 => (if t843 = true then (laws_FnExactJustifyLine.j0 k a1 a2 bt803.1 bt803.2 bt839.1 bt839.2 (bt839.2 != bt803.2) a0_0 a0_1 a0_2 a0_3 a0_4 a0_5 a0_6 a0_7 a0_8 a0_9 a0_10 a0_11 a0_12 a0_13 a0_14 a0_15 a0_16 a0_17 a0_18 a0_19 a0_20 a0_21 a0_22 a0_23 a0_24 a0_25 a0_26 a0_27 l0_28 bt807.1 bt807.2.1 bt807.2.2.1 bt807.2.2.2.1 bt807.2.2.2.2.1 bt807.2.2.2.2.2.1 bt807.2.2.2.2.2.2.1 bt807.2.2.2.2.2.2.2.1 bt807.2.2.2.2.2.2.2.2.1 bt807.2.2.2.2.2.2.2.2.2.1 bt807.2.2.2.2.2.2.2.2.2.2.1 bt807.2.2.2.2.2.2.2.2.2.2.2.1 bt807.2.2.2.2.2.2.2.2.2.2.2.2.1 bt807.2.2.2.2.2.2.2.2.2.2.2.2.2.1 bt807.2.2.2.2.2.2.2.2.2.2.2.2.2.2.1 bt807.2.2.2.2.2.2.2.2.2.2.2.2.2.2.2.1 bt807.2.2.2.2.2.2.2.2.2.2.2.2.2.2.2.2.1 bt807.2.2.2.2.2.2.2.2.2.2.2.2.2.2.2.2.2.1 bt807.2.2.2.2.2.2.2.2.2.2.2.2.2.2.2.2.2.2.1 bt807.2.2.2.2.2.2.2.2.2.2.2.2.2.2.2.2.2.2.2.1 bt807.2.2.2.2.2.2.2.2.2.2.2.2.2.2.2.2.2.2.2.2.1 bt807.2.2.2.2.2.2.2.2.2.2.2.2.2.2.2.2.2.2.2.2.2.1 bt807.2.2.2.2.2.2.2.2.2.2.2.2.2.2.2.2.2.2.2.2.2.2.1 bt807.2.2.2.2.2.2.2.2.2.2.2.2.2.2.2.2.2.2.2.2.2.2.2.1 bt807.2.2.2.2.2.2.2.2.2.2.2.2.2.2.2.2.2.2.2.2.2.2.2.2.1 bt807.2.2.2.2.2.2.2.2.2.2.2.2.2.2.2.2.2.2.2.2.2.2.2.2.2.1 bt807.2.2.2.2.2.2.2.2.2.2.2.2.2.2.2.2.2.2.2.2.2.2.2.2.2.2.1 bt807.2.2.2.2.2.2.2.2.2.2.2.2.2.2.2.2.2.2.2.2.2.2.2.2.2.2.2.1 bt807.2.2.2.2.2.2.2.2.2.2.2.2.2.2.2.2.2.2.2.2.2.2.2.2.2.2.2.2) else (laws_FnExactJustifyLine.j0 k a1 a2 bt803.1 bt803.2 bt839.1 bt839.2 true a0_0 a0_1 a0_2 a0_3 a0_4 a0_5 a0_6 a0_7 a0_8 a0_9 a0_10 a0_11 a0_12 a0_13 a0_14 a0_15 a0_16 a0_17 a0_18 a0_19 a0_20 a0_21 a0_22 a0_23 a0_24 a0_25 a0_26 a0_27 l0_28 bt807.1 bt807.2.1 bt807.2.2.1 bt807.2.2.2.1 bt807.2.2.2.2.1 bt807.2.2.2.2.2.1 bt807.2.2.2.2.2.2.1 bt807.2.2.2.2.2.2.2.1 bt807.2.2.2.2.2.2.2.2.1 bt807.2.2.2.2.2.2.2.2.2.1 bt807.2.2.2.2.2.2.2.2.2.2.1 bt807.2.2.2.2.2.2.2.2.2.2.2.1 bt807.2.2.2.2.2.2.2.2.2.2.2.2.1 bt807.2.2.2.2.2.2.2.2.2.2.2.2.2.1 bt807.2.2.2.2.2.2.2.2.2.2.2.2.2.2.1 bt807.2.2.2.2.2.2.2.2.2.2.2.2.2.2.2.1 bt807.2.2.2.2.2.2.2.2.2.2.2.2.2.2.2.2.1 bt807.2.2.2.2.2.2.2.2.2.2.2.2.2.2.2.2.2.1 bt807.2.2.2.2.2.2.2.2.2.2.2.2.2.2.2.2.2.2.1 bt807.2.2.2.2.2.2.2.2.2.2.2.2.2.2.2.2.2.2.2.1 bt807.2.2.2.2.2.2.2.2.2.2.2.2.2.2.2.2.2.2.2.2.1 bt807.2.2.2.2.2.2.2.2.2.2.2.2.2.2.2.2.2.2.2.2.2.1 bt807.2.2.2.2.2.2.2.2.2.2.2.2.2.2.2.2.2.2.2.2.2.2.1 bt807.2.2.2.2.2.2.2.2.2.2.2.2.2.2.2.2.2.2.2.2.2.2.2.1 bt807.2.2.2.2.2.2.2.2.2.2.2.2.2.2.2.2.2.2.2.2.2.2.2.2.1 bt807.2.2.2.2.2.2.2.2.2.2.2.2.2.2.2.2.2.2.2.2.2.2.2.2.2.1 bt807.2.2.2.2.2.2.2.2.2.2.2.2.2.2.2.2.2.2.2.2.2.2.2.2.2.2.1 bt807.2.2.2.2.2.2.2.2.2.2.2.2.2.2.2.2.2.2.2.2.2.2.2.2.2.2.2.1 bt807.2.2.2.2.2.2.2.2.2.2.2.2.2.2.2.2.2.2.2.2.2.2.2.2.2.2.2.2)))))))) = some r := H
    have A6 := Aside0.mk A60
    clear A60
    by_cases c7 : t771 < 0
    · rw [if_pos c7] at H
      have c7b0 : decide (t771 < 0) = true := decide_eq_true c7
      clear c7
      obtain rfl := Option.some.inj H
      go_enter Tryd.func7, Tryd.ntmps7
      go_wp2_with (first | ((with_reducible refine gate_dst (N := 3) rfl ?_); refine box_event ?hg (N := 3) ?hd (cs := #[.int .i8 a0_0, .int .i8 a0_1, .int .i8 a0_2, .int .i8 a0_3, .int .i8 a0_4, .int .i8 a0_5, .int .i8 a0_6, .int .i8 a0_7, .int .i8 a0_8, .int .i8 a0_9, .int .i8 a0_10, .int .i8 a0_11, .int .i8 a0_12, .int .i8 a0_13, .int .i8 a0_14, .int .i8 a0_15, .int .i8 a0_16, .int .i8 a0_17, .int .i8 a0_18, .int .i8 a0_19, .int .i8 a0_20, .int .i8 a0_21, .int .i8 a0_22, .int .i8 a0_23, .int .i8 a0_24, .int .i8 a0_25, .int .i8 a0_26, .int .i8 a0_27, .slice A0_28 l0_28.length c0_28]) (t := 26) ?hr ?_; (case hd => rfl); (case hg => rfl); (case hr => first | (go_simp; done) | (go_simp; rfl)); intro gb770 hg w8 hbox hb; have n0_ := Aside0.mk (below_step (by repeat (first | (with_reducible first | exact HB.out | apply below_alloc | apply pw_below_drewN | apply below_drew1) | exact HB.out)) hb); have n1_ := Aside0.mk (hbox); have n2_ := Aside0.mk ((by rw [hg]; exact (below_size (by repeat (first | (with_reducible first | exact HB.out | apply below_alloc | apply pw_below_drewN | apply below_drew1) | exact HB.out))) : w.heap.size ≤ gb770)); have n3_ := Aside0.mk ((by rw [hg]; exact (below_size (by repeat (first | (with_reducible first | exact HB.out | apply below_alloc | apply pw_below_drewN | apply below_drew1) | exact HB.out))) : w.heap.size ≤ gb770)); clear HB; have HB := n0_; have BK770 := n1_; have GW770 := n2_; have GE770 := n3_; clear n0_ n1_ n2_ n3_; clear hb hbox hg) | ((with_reducible refine gate_dst (N := 21) rfl ?_); refine wpList_load_mid rfl 26 (.tmp 3) rfl gb770 0 rfl [.int .i8 a0_0, .int .i8 a0_1, .int .i8 a0_2, .int .i8 a0_3, .int .i8 a0_4, .int .i8 a0_5, .int .i8 a0_6, .int .i8 a0_7, .int .i8 a0_8, .int .i8 a0_9, .int .i8 a0_10, .int .i8 a0_11, .int .i8 a0_12, .int .i8 a0_13, .int .i8 a0_14, .int .i8 a0_15, .int .i8 a0_16, .int .i8 a0_17, .int .i8 a0_18, .int .i8 a0_19, .int .i8 a0_20, .int .i8 a0_21, .int .i8 a0_22, .int .i8 a0_23, .int .i8 a0_24, .int .i8 a0_25, .int .i8 a0_26, .int .i8 a0_27, .slice A0_28 l0_28.length c0_28] _ (range_partx_ [] [.int .i8 a0_0, .int .i8 a0_1, .int .i8 a0_2, .int .i8 a0_3, .int .i8 a0_4, .int .i8 a0_5, .int .i8 a0_6, .int .i8 a0_7, .int .i8 a0_8, .int .i8 a0_9, .int .i8 a0_10, .int .i8 a0_11, .int .i8 a0_12, .int .i8 a0_13, .int .i8 a0_14, .int .i8 a0_15, .int .i8 a0_16, .int .i8 a0_17, .int .i8 a0_18, .int .i8 a0_19, .int .i8 a0_20, .int .i8 a0_21, .int .i8 a0_22, .int .i8 a0_23, .int .i8 a0_24, .int .i8 a0_25, .int .i8 a0_26, .int .i8 a0_27, .slice A0_28 l0_28.length c0_28] [] 0 rfl (by (with_reducible repeat (first | refine blk_drewN ?_ _ | refine blk_drew ?_ | refine blk_alloc ?_ _)); exact BK770.out)) Tryd.underlying26 rfl (by exact (show (Tryd.prog.info? 26).map (·.size) = some 29 by kernel_rfl)) ?_) | ((with_reducible refine gate_callee (f := 18) rfl ?_); refine goesL_ (some 23) rfl rfl Tryd.func18 (by kernel_rfl) rfl #[.agg #[.int .i8 a0_0, .int .i8 a0_1, .int .i8 a0_2, .int .i8 a0_3, .int .i8 a0_4, .int .i8 a0_5, .int .i8 a0_6, .int .i8 a0_7, .int .i8 a0_8, .int .i8 a0_9, .int .i8 a0_10, .int .i8 a0_11, .int .i8 a0_12, .int .i8 a0_13, .int .i8 a0_14, .int .i8 a0_15, .int .i8 a0_16, .int .i8 a0_17, .int .i8 a0_18, .int .i8 a0_19, .int .i8 a0_20, .int .i8 a0_21, .int .i8 a0_22, .int .i8 a0_23, .int .i8 a0_24, .int .i8 a0_25, .int .i8 a0_26, .int .i8 a0_27, .slice A0_28 l0_28.length c0_28], .int .i64 1048576] rfl (by (try simp only [List.map_toArray, List.map_cons, List.map_nil]); first | done | rfl | (simp only [List.length_drop, List.length_take]; rfl)) ?_; (with_reducible refine (laws_szFace.calls a0_0 a0_1 a0_2 a0_3 a0_4 a0_5 a0_6 a0_7 a0_8 a0_9 a0_10 a0_11 a0_12 a0_13 a0_14 a0_15 a0_16 a0_17 a0_18 a0_19 a0_20 a0_21 a0_22 a0_23 a0_24 a0_25 a0_26 a0_27 _ _ l0_28 1048576 t771 _ ?side1 ?side2 A6.out).mono ?_); (case side1 => repeat (first | exact (Kd.C_below HR0_28.out HB.out) | (with_reducible refine Kd.C_alloc ?_ _) | (with_reducible refine Kd.C_drewN ?_ _) | (with_reducible refine Kd.C_drew ?_))); (case side2 => exact HC0_28.out); rintro e w9 ⟨rfl, hb⟩; refine ⟨_, rfl, ?_⟩; have n0_ := Aside0.mk (blk_below (g := gb770) (o := .cells #[.int .i8 a0_0, .int .i8 a0_1, .int .i8 a0_2, .int .i8 a0_3, .int .i8 a0_4, .int .i8 a0_5, .int .i8 a0_6, .int .i8 a0_7, .int .i8 a0_8, .int .i8 a0_9, .int .i8 a0_10, .int .i8 a0_11, .int .i8 a0_12, .int .i8 a0_13, .int .i8 a0_14, .int .i8 a0_15, .int .i8 a0_16, .int .i8 a0_17, .int .i8 a0_18, .int .i8 a0_19, .int .i8 a0_20, .int .i8 a0_21, .int .i8 a0_22, .int .i8 a0_23, .int .i8 a0_24, .int .i8 a0_25, .int .i8 a0_26, .int .i8 a0_27, .slice A0_28 l0_28.length c0_28] 26 (0, 0)) (by (with_reducible repeat (first | refine blk_drewN ?_ _ | refine blk_drew ?_ | refine blk_alloc ?_ _)); exact BK770.out) hb); have n1_ := Aside0.mk (below_step (by repeat (first | (with_reducible first | exact HB.out | apply below_alloc | apply pw_below_drewN | apply below_drew1 | refine below_set ?_ GE770.out) | exact HB.out)) hb); clear BK770; clear HB; have BK770 := n0_; have HB := n1_; clear n0_ n1_; (try clear hb); (try clear hb2); (try clear hk); (try clear hi)))
      go_ret
      exact ⟨by first | rfl | (simp [errW_none, errW_some] <;> rfl) | (simp [*, errW_none, errW_some] <;> rfl), by repeat (first | (with_reducible first | exact HB.out | apply below_alloc | apply pw_below_drewN | apply below_drew1 | refine below_set ?_ GE770.out) | exact HB.out)⟩
    · rw [if_neg c7] at H
      have c7b0 : decide (t771 < 0) = false := decide_eq_false c7
      clear c7
      replace H := Option.bind_eq_some_iff.mp H
      obtain ⟨⟨t772, t773, t774, t775, t776, t777, t778, t779, t780, t781, t782, t783, t784, t785, t786, t787, t788, t789, t790, t791, t792, t793, t794, t795, t796, t797, t798, t799, t800⟩, A100, H⟩ := H
      replace H : ((spec_JustifyLine.f k t772 t773 t774 t775 t776 t777 t778 t779 t780 t781 t782 t783 t784 t785 t786 t787 t788 t789 t790 t791 t792 t793 t794 t795 t796 t797 t798 t799 t800 a1 a2).bind fun bt803 => ((laws_toFace.f a0_0 a0_1 a0_2 a0_3 a0_4 a0_5 a0_6 a0_7 a0_8 a0_9 a0_10 a0_11 a0_12 a0_13 a0_14 a0_15 a0_16 a0_17 a0_18 a0_19 a0_20 a0_21 a0_22 a0_23 a0_24 a0_25 a0_26 a0_27 l0_28).bind fun bt807 => ((impl_JustifyLine.f k bt807.1 bt807.2.1 bt807.2.2.1 bt807.2.2.2.1 bt807.2.2.2.2.1 bt807.2.2.2.2.2.1 bt807.2.2.2.2.2.2.1 bt807.2.2.2.2.2.2.2.1 bt807.2.2.2.2.2.2.2.2.1 bt807.2.2.2.2.2.2.2.2.2.1 bt807.2.2.2.2.2.2.2.2.2.2.1 bt807.2.2.2.2.2.2.2.2.2.2.2.1 bt807.2.2.2.2.2.2.2.2.2.2.2.2.1 bt807.2.2.2.2.2.2.2.2.2.2.2.2.2.1 bt807.2.2.2.2.2.2.2.2.2.2.2.2.2.2.1 bt807.2.2.2.2.2.2.2.2.2.2.2.2.2.2.2.1 bt807.2.2.2.2.2.2.2.2.2.2.2.2.2.2.2.2.1 bt807.2.2.2.2.2.2.2.2.2.2.2.2.2.2.2.2.2.1 bt807.2.2.2.2.2.2.2.2.2.2.2.2.2.2.2.2.2.2.1 bt807.2.2.2.2.2.2.2.2.2.2.2.2.2.2.2.2.2.2.2.1 bt807.2.2.2.2.2.2.2.2.2.2.2.2.2.2.2.2.2.2.2.2.1 bt807.2.2.2.2.2.2.2.2.2.2.2.2.2.2.2.2.2.2.2.2.2.1 bt807.2.2.2.2.2.2.2.2.2.2.2.2.2.2.2.2.2.2.2.2.2.2.1 bt807.2.2.2.2.2.2.2.2.2.2.2.2.2.2.2.2.2.2.2.2.2.2.2.1 bt807.2.2.2.2.2.2.2.2.2.2.2.2.2.2.2.2.2.2.2.2.2.2.2.2.1 bt807.2.2.2.2.2.2.2.2.2.2.2.2.2.2.2.2.2.2.2.2.2.2.2.2.2.1 bt807.2.2.2.2.2.2.2.2.2.2.2.2.2.2.2.2.2.2.2.2.2.2.2.2.2.2.1 bt807.2.2.2.2.2.2.2.2.2.2.2.2.2.2.2.2.2.2.2.2.2.2.2.2.2.2.2.1 bt807.2.2.2.2.2.2.2.2.2.2.2.2.2.2.2.2.2.2.2.2.2.2.2.2.2.2.2.2 a1 a2).bind fun bt839 => ((laws_eqInt64S.f k bt839.1 bt803.1).bind fun t843 => (if t843 = true then (laws_FnExactJustifyLine.j0 k a1 a2 bt803.1 bt803.2 bt839.1 bt839.2 (bt839.2 != bt803.2) a0_0 a0_1 a0_2 a0_3 a0_4 a0_5 a0_6 a0_7 a0_8 a0_9 a0_10 a0_11 a0_12 a0_13 a0_14 a0_15 a0_16 a0_17 a0_18 a0_19 a0_20 a0_21 a0_22 a0_23 a0_24 a0_25 a0_26 a0_27 l0_28 bt807.1 bt807.2.1 bt807.2.2.1 bt807.2.2.2.1 bt807.2.2.2.2.1 bt807.2.2.2.2.2.1 bt807.2.2.2.2.2.2.1 bt807.2.2.2.2.2.2.2.1 bt807.2.2.2.2.2.2.2.2.1 bt807.2.2.2.2.2.2.2.2.2.1 bt807.2.2.2.2.2.2.2.2.2.2.1 bt807.2.2.2.2.2.2.2.2.2.2.2.1 bt807.2.2.2.2.2.2.2.2.2.2.2.2.1 bt807.2.2.2.2.2.2.2.2.2.2.2.2.2.1 bt807.2.2.2.2.2.2.2.2.2.2.2.2.2.2.1 bt807.2.2.2.2.2.2.2.2.2.2.2.2.2.2.2.1 bt807.2.2.2.2.2.2.2.2.2.2.2.2.2.2.2.2.1 bt807.2.2.2.2.2.2.2.2.2.2.2.2.2.2.2.2.2.1 bt807.2.2.2.2.2.2.2.2.2.2.2.2.2.2.2.2.2.2.1 bt807.2.2.2.2.2.2.2.2.2.2.2.2.2.2.2.2.2.2.2.1 bt807.2.2.2.2.2.2.2.2.2.2.2.2.2.2.2.2.2.2.2.2.1 bt807.2.2.2.2.2.2.2.2.2.2.2.2.2.2.2.2.2.2.2.2.2.1 bt807.2.2.2.2.2.2.2.2.2.2.2.2.2.2.2.2.2.2.2.2.2.2.1 bt807.2.2.2.2.2.2.2.2.2.2.2.2.2.2.2.2.2.2.2.2.2.2.2.1 bt807.2.2.2.2.2.2.2.2.2.2.2.2.2.2.2.2.2.2.2.2.2.2.2.2.1 bt807.2.2.2.2.2.2.2.2.2.2.2.2.2.2.2.2.2.2.2.2.2.2.2.2.2.1 bt807.2.2.2.2.2.2.2.2.2.2.2.2.2.2.2.2.2.2.2.2.2.2.2.2.2.2.1 bt807.2.2.2.2.2.2.2.2.2.2.2.2.2.2.2.2.2.2.2.2.2.2.2.2.2.2.2.1 bt807.2.2.2.2.2.2.2.2.2.2.2.2.2.2.2.2.2.2.2.2.2.2.2.2.2.2.2.2) else (laws_FnExactJustifyLine.j0 k a1 a2 bt803.1 bt803.2 bt839.1 bt839.2 true a0_0 a0_1 a0_2 a0_3 a0_4 a0_5 a0_6 a0_7 a0_8 a0_9 a0_10 a0_11 a0_12 a0_13 a0_14 a0_15 a0_16 a0_17 a0_18 a0_19 a0_20 a0_21 a0_22 a0_23 a0_24 a0_25 a0_26 a0_27 l0_28 bt807.1 bt807.2.1 bt807.2.2.1 bt807.2.2.2.1 bt807.2.2.2.2.1 bt807.2.2.2.2.2.1 bt807.2.2.2.2.2.2.1 bt807.2.2.2.2.2.2.2.1 bt807.2.2.2.2.2.2.2.2.1 bt807.2.2.2.2.2.2.2.2.2.1 bt807.2.2.2.2.2.2.2.2.2.2.1 bt807.2.2.2.2.2.2.2.2.2.2.2.1 bt807.2.2.2.2.2.2.2.2.2.2.2.2.1 bt807.2.2.2.2.2.2.2.2.2.2.2.2.2.1 bt807.2.2.2.2.2.2.2.2.2.2.2.2.2.2.1 bt807.2.2.2.2.2.2.2.2.2.2.2.2.2.2.2.1 bt807.2.2.2.2.2.2.2.2.2.2.2.2.2.2.2.2.1 bt807.2.2.2.2.2.2.2.2.2.2.2.2.2.2.2.2.2.1 bt807.2.2.2.2.2.2.2.2.2.2.2.2.2.2.2.2.2.2.1 bt807.2.2.2.2.2.2.2.2.2.2.2.2.2.2.2.2.2.2.2.1 bt807.2.2.2.2.2.2.2.2.2.2.2.2.2.2.2.2.2.2.2.2.1 bt807.2.2.2.2.2.2.2.2.2.2.2.2.2.2.2.2.2.2.2.2.2.1 bt807.2.2.2.2.2.2.2.2.2.2.2.2.2.2.2.2.2.2.2.2.2.2.1 bt807.2.2.2.2.2.2.2.2.2.2.2.2.2.2.2.2.2.2.2.2.2.2.2.1 bt807.2.2.2.2.2.2.2.2.2.2.2.2.2.2.2.2.2.2.2.2.2.2.2.2.1 bt807.2.2.2.2.2.2.2.2.2.2.2.2.2.2.2.2.2.2.2.2.2.2.2.2.2.1 bt807.2.2.2.2.2.2.2.2.2.2.2.2.2.2.2.2.2.2.2.2.2.2.2.2.2.2.1 bt807.2.2.2.2.2.2.2.2.2.2.2.2.2.2.2.2.2.2.2.2.2.2.2.2.2.2.2.1 bt807.2.2.2.2.2.2.2.2.2.2.2.2.2.2.2.2.2.2.2.2.2.2.2.2.2.2.2.2)))))) = some r := H
      have A10 := Aside0.mk A100
      clear A100
      replace H := Option.bind_eq_some_iff.mp H
      obtain ⟨⟨t803, t806⟩, A110, H⟩ := H
      replace H : ((laws_toFace.f a0_0 a0_1 a0_2 a0_3 a0_4 a0_5 a0_6 a0_7 a0_8 a0_9 a0_10 a0_11 a0_12 a0_13 a0_14 a0_15 a0_16 a0_17 a0_18 a0_19 a0_20 a0_21 a0_22 a0_23 a0_24 a0_25 a0_26 a0_27 l0_28).bind fun bt807 => ((impl_JustifyLine.f k bt807.1 bt807.2.1 bt807.2.2.1 bt807.2.2.2.1 bt807.2.2.2.2.1 bt807.2.2.2.2.2.1 bt807.2.2.2.2.2.2.1 bt807.2.2.2.2.2.2.2.1 bt807.2.2.2.2.2.2.2.2.1 bt807.2.2.2.2.2.2.2.2.2.1 bt807.2.2.2.2.2.2.2.2.2.2.1 bt807.2.2.2.2.2.2.2.2.2.2.2.1 bt807.2.2.2.2.2.2.2.2.2.2.2.2.1 bt807.2.2.2.2.2.2.2.2.2.2.2.2.2.1 bt807.2.2.2.2.2.2.2.2.2.2.2.2.2.2.1 bt807.2.2.2.2.2.2.2.2.2.2.2.2.2.2.2.1 bt807.2.2.2.2.2.2.2.2.2.2.2.2.2.2.2.2.1 bt807.2.2.2.2.2.2.2.2.2.2.2.2.2.2.2.2.2.1 bt807.2.2.2.2.2.2.2.2.2.2.2.2.2.2.2.2.2.2.1 bt807.2.2.2.2.2.2.2.2.2.2.2.2.2.2.2.2.2.2.2.1 bt807.2.2.2.2.2.2.2.2.2.2.2.2.2.2.2.2.2.2.2.2.1 bt807.2.2.2.2.2.2.2.2.2.2.2.2.2.2.2.2.2.2.2.2.2.1 bt807.2.2.2.2.2.2.2.2.2.2.2.2.2.2.2.2.2.2.2.2.2.2.1 bt807.2.2.2.2.2.2.2.2.2.2.2.2.2.2.2.2.2.2.2.2.2.2.2.1 bt807.2.2.2.2.2.2.2.2.2.2.2.2.2.2.2.2.2.2.2.2.2.2.2.2.1 bt807.2.2.2.2.2.2.2.2.2.2.2.2.2.2.2.2.2.2.2.2.2.2.2.2.2.1 bt807.2.2.2.2.2.2.2.2.2.2.2.2.2.2.2.2.2.2.2.2.2.2.2.2.2.2.1 bt807.2.2.2.2.2.2.2.2.2.2.2.2.2.2.2.2.2.2.2.2.2.2.2.2.2.2.2.1 bt807.2.2.2.2.2.2.2.2.2.2.2.2.2.2.2.2.2.2.2.2.2.2.2.2.2.2.2.2 a1 a2).bind fun bt839 => ((laws_eqInt64S.f k bt839.1 t803).bind fun t843 => (if t843 = true then (laws_FnExactJustifyLine.j0 k a1 a2 t803 t806 bt839.1 bt839.2 (bt839.2 != t806) a0_0 a0_1 a0_2 a0_3 a0_4 a0_5 a0_6 a0_7 a0_8 a0_9 a0_10 a0_11 a0_12 a0_13 a0_14 a0_15 a0_16 a0_17 a0_18 a0_19 a0_20 a0_21 a0_22 a0_23 a0_24 a0_25 a0_26 a0_27 l0_28 bt807.1 bt807.2.1 bt807.2.2.1 bt807.2.2.2.1 bt807.2.2.2.2.1 bt807.2.2.2.2.2.1 bt807.2.2.2.2.2.2.1 bt807.2.2.2.2.2.2.2.1 bt807.2.2.2.2.2.2.2.2.1 bt807.2.2.2.2.2.2.2.2.2.1 bt807.2.2.2.2.2.2.2.2.2.2.1 bt807.2.2.2.2.2.2.2.2.2.2.2.1 bt807.2.2.2.2.2.2.2.2.2.2.2.2.1 bt807.2.2.2.2.2.2.2.2.2.2.2.2.2.1 bt807.2.2.2.2.2.2.2.2.2.2.2.2.2.2.1 bt807.2.2.2.2.2.2.2.2.2.2.2.2.2.2.2.1 bt807.2.2.2.2.2.2.2.2.2.2.2.2.2.2.2.2.1 bt807.2.2.2.2.2.2.2.2.2.2.2.2.2.2.2.2.2.1 bt807.2.2.2.2.2.2.2.2.2.2.2.2.2.2.2.2.2.2.1 bt807.2.2.2.2.2.2.2.2.2.2.2.2.2.2.2.2.2.2.2.1 bt807.2.2.2.2.2.2.2.2.2.2.2.2.2.2.2.2.2.2.2.2.1 bt807.2.2.2.2.2.2.2.2.2.2.2.2.2.2.2.2.2.2.2.2.2.1 bt807.2.2.2.2.2.2.2.2.2.2.2.2.2.2.2.2.2.2.2.2.2.2.1 bt807.2.2.2.2.2.2.2.2.2.2.2.2.2.2.2.2.2.2.2.2.2.2.2.1 bt807.2.2.2.2.2.2.2.2.2.2.2.2.2.2.2.2.2.2.2.2.2.2.2.2.1 bt807.2.2.2.2.2.2.2.2.2.2.2.2.2.2.2.2.2.2.2.2.2.2.2.2.2.1 bt807.2.2.2.2.2.2.2.2.2.2.2.2.2.2.2.2.2.2.2.2.2.2.2.2.2.2.1 bt807.2.2.2.2.2.2.2.2.2.2.2.2.2.2.2.2.2.2.2.2.2.2.2.2.2.2.2.1 bt807.2.2.2.2.2.2.2.2.2.2.2.2.2.2.2.2.2.2.2.2.2.2.2.2.2.2.2.2) else (laws_FnExactJustifyLine.j0 k a1 a2 t803 t806 bt839.1 bt839.2 true a0_0 a0_1 a0_2 a0_3 a0_4 a0_5 a0_6 a0_7 a0_8 a0_9 a0_10 a0_11 a0_12 a0_13 a0_14 a0_15 a0_16 a0_17 a0_18 a0_19 a0_20 a0_21 a0_22 a0_23 a0_24 a0_25 a0_26 a0_27 l0_28 bt807.1 bt807.2.1 bt807.2.2.1 bt807.2.2.2.1 bt807.2.2.2.2.1 bt807.2.2.2.2.2.1 bt807.2.2.2.2.2.2.1 bt807.2.2.2.2.2.2.2.1 bt807.2.2.2.2.2.2.2.2.1 bt807.2.2.2.2.2.2.2.2.2.1 bt807.2.2.2.2.2.2.2.2.2.2.1 bt807.2.2.2.2.2.2.2.2.2.2.2.1 bt807.2.2.2.2.2.2.2.2.2.2.2.2.1 bt807.2.2.2.2.2.2.2.2.2.2.2.2.2.1 bt807.2.2.2.2.2.2.2.2.2.2.2.2.2.2.1 bt807.2.2.2.2.2.2.2.2.2.2.2.2.2.2.2.1 bt807.2.2.2.2.2.2.2.2.2.2.2.2.2.2.2.2.1 bt807.2.2.2.2.2.2.2.2.2.2.2.2.2.2.2.2.2.1 bt807.2.2.2.2.2.2.2.2.2.2.2.2.2.2.2.2.2.2.1 bt807.2.2.2.2.2.2.2.2.2.2.2.2.2.2.2.2.2.2.2.1 bt807.2.2.2.2.2.2.2.2.2.2.2.2.2.2.2.2.2.2.2.2.1 bt807.2.2.2.2.2.2.2.2.2.2.2.2.2.2.2.2.2.2.2.2.2.1 bt807.2.2.2.2.2.2.2.2.2.2.2.2.2.2.2.2.2.2.2.2.2.2.1 bt807.2.2.2.2.2.2.2.2.2.2.2.2.2.2.2.2.2.2.2.2.2.2.2.1 bt807.2.2.2.2.2.2.2.2.2.2.2.2.2.2.2.2.2.2.2.2.2.2.2.2.1 bt807.2.2.2.2.2.2.2.2.2.2.2.2.2.2.2.2.2.2.2.2.2.2.2.2.2.1 bt807.2.2.2.2.2.2.2.2.2.2.2.2.2.2.2.2.2.2.2.2.2.2.2.2.2.2.1 bt807.2.2.2.2.2.2.2.2.2.2.2.2.2.2.2.2.2.2.2.2.2.2.2.2.2.2.2.1 bt807.2.2.2.2.2.2.2.2.2.2.2.2.2.2.2.2.2.2.2.2.2.2.2.2.2.2.2.2))))) = some r := H
      have A11 := Aside0.mk A110
      clear A110
      replace H := Option.bind_eq_some_iff.mp H
      obtain ⟨⟨t807, t808, t809, t810, t811, t812, t813, t814, t815, t816, t817, t818, t819, t820, t821, t822, t823, t824, t825, t826, t827, t828, t829, t830, t831, t832, t833, t834, t835⟩, A120, H⟩ := H
      replace H : ((impl_JustifyLine.f k t807 t808 t809 t810 t811 t812 t813 t814 t815 t816 t817 t818 t819 t820 t821 t822 t823 t824 t825 t826 t827 t828 t829 t830 t831 t832 t833 t834 t835 a1 a2).bind fun bt839 => ((laws_eqInt64S.f k bt839.1 t803).bind fun t843 => (if t843 = true then (laws_FnExactJustifyLine.j0 k a1 a2 t803 t806 bt839.1 bt839.2 (bt839.2 != t806) a0_0 a0_1 a0_2 a0_3 a0_4 a0_5 a0_6 a0_7 a0_8 a0_9 a0_10 a0_11 a0_12 a0_13 a0_14 a0_15 a0_16 a0_17 a0_18 a0_19 a0_20 a0_21 a0_22 a0_23 a0_24 a0_25 a0_26 a0_27 l0_28 t807 t808 t809 t810 t811 t812 t813 t814 t815 t816 t817 t818 t819 t820 t821 t822 t823 t824 t825 t826 t827 t828 t829 t830 t831 t832 t833 t834 t835) else (laws_FnExactJustifyLine.j0 k a1 a2 t803 t806 bt839.1 bt839.2 true a0_0 a0_1 a0_2 a0_3 a0_4 a0_5 a0_6 a0_7 a0_8 a0_9 a0_10 a0_11 a0_12 a0_13 a0_14 a0_15 a0_16 a0_17 a0_18 a0_19 a0_20 a0_21 a0_22 a0_23 a0_24 a0_25 a0_26 a0_27 l0_28 t807 t808 t809 t810 t811 t812 t813 t814 t815 t816 t817 t818 t819 t820 t821 t822 t823 t824 t825 t826 t827 t828 t829 t830 t831 t832 t833 t834 t835)))) = some r := H
      have A12 := Aside0.mk A120
      clear A120
      replace H := Option.bind_eq_some_iff.mp H
      obtain ⟨⟨t839, t842⟩, A130, H⟩ := H
      replace H : ((laws_eqInt64S.f k t839 t803).bind fun t843 => (if t843 = true then (laws_FnExactJustifyLine.j0 k a1 a2 t803 t806 t839 t842 (t842 != t806) a0_0 a0_1 a0_2 a0_3 a0_4 a0_5 a0_6 a0_7 a0_8 a0_9 a0_10 a0_11 a0_12 a0_13 a0_14 a0_15 a0_16 a0_17 a0_18 a0_19 a0_20 a0_21 a0_22 a0_23 a0_24 a0_25 a0_26 a0_27 l0_28 t807 t808 t809 t810 t811 t812 t813 t814 t815 t816 t817 t818 t819 t820 t821 t822 t823 t824 t825 t826 t827 t828 t829 t830 t831 t832 t833 t834 t835) else (laws_FnExactJustifyLine.j0 k a1 a2 t803 t806 t839 t842 true a0_0 a0_1 a0_2 a0_3 a0_4 a0_5 a0_6 a0_7 a0_8 a0_9 a0_10 a0_11 a0_12 a0_13 a0_14 a0_15 a0_16 a0_17 a0_18 a0_19 a0_20 a0_21 a0_22 a0_23 a0_24 a0_25 a0_26 a0_27 l0_28 t807 t808 t809 t810 t811 t812 t813 t814 t815 t816 t817 t818 t819 t820 t821 t822 t823 t824 t825 t826 t827 t828 t829 t830 t831 t832 t833 t834 t835))) = some r := H
      have A13 := Aside0.mk A130
      clear A130
      have HC14 := Aside0.mk H
      clear H
      go_enter Tryd.func7, Tryd.ntmps7
      go_upto_region 10 with (first | ((with_reducible refine gate_dst (N := 3) rfl ?_); refine box_event ?hg (N := 3) ?hd (cs := #[.int .i8 a0_0, .int .i8 a0_1, .int .i8 a0_2, .int .i8 a0_3, .int .i8 a0_4, .int .i8 a0_5, .int .i8 a0_6, .int .i8 a0_7, .int .i8 a0_8, .int .i8 a0_9, .int .i8 a0_10, .int .i8 a0_11, .int .i8 a0_12, .int .i8 a0_13, .int .i8 a0_14, .int .i8 a0_15, .int .i8 a0_16, .int .i8 a0_17, .int .i8 a0_18, .int .i8 a0_19, .int .i8 a0_20, .int .i8 a0_21, .int .i8 a0_22, .int .i8 a0_23, .int .i8 a0_24, .int .i8 a0_25, .int .i8 a0_26, .int .i8 a0_27, .slice A0_28 l0_28.length c0_28]) (t := 26) ?hr ?_; (case hd => rfl); (case hg => rfl); (case hr => first | (go_simp; done) | (go_simp; rfl)); intro gb770 hg w15 hbox hb; have n0_ := Aside0.mk (below_step (by repeat (first | (with_reducible first | exact HB.out | apply below_alloc | apply pw_below_drewN | apply below_drew1) | exact HB.out)) hb); have n1_ := Aside0.mk (hbox); have n2_ := Aside0.mk ((by rw [hg]; exact (below_size (by repeat (first | (with_reducible first | exact HB.out | apply below_alloc | apply pw_below_drewN | apply below_drew1) | exact HB.out))) : w.heap.size ≤ gb770)); have n3_ := Aside0.mk ((by rw [hg]; exact (below_size (by repeat (first | (with_reducible first | exact HB.out | apply below_alloc | apply pw_below_drewN | apply below_drew1) | exact HB.out))) : w.heap.size ≤ gb770)); clear HB; have HB := n0_; have BK770 := n1_; have GW770 := n2_; have GE770 := n3_; clear n0_ n1_ n2_ n3_; clear hb hbox hg) | ((with_reducible refine gate_dst (N := 21) rfl ?_); refine wpList_load_mid rfl 26 (.tmp 3) rfl gb770 0 rfl [.int .i8 a0_0, .int .i8 a0_1, .int .i8 a0_2, .int .i8 a0_3, .int .i8 a0_4, .int .i8 a0_5, .int .i8 a0_6, .int .i8 a0_7, .int .i8 a0_8, .int .i8 a0_9, .int .i8 a0_10, .int .i8 a0_11, .int .i8 a0_12, .int .i8 a0_13, .int .i8 a0_14, .int .i8 a0_15, .int .i8 a0_16, .int .i8 a0_17, .int .i8 a0_18, .int .i8 a0_19, .int .i8 a0_20, .int .i8 a0_21, .int .i8 a0_22, .int .i8 a0_23, .int .i8 a0_24, .int .i8 a0_25, .int .i8 a0_26, .int .i8 a0_27, .slice A0_28 l0_28.length c0_28] _ (range_partx_ [] [.int .i8 a0_0, .int .i8 a0_1, .int .i8 a0_2, .int .i8 a0_3, .int .i8 a0_4, .int .i8 a0_5, .int .i8 a0_6, .int .i8 a0_7, .int .i8 a0_8, .int .i8 a0_9, .int .i8 a0_10, .int .i8 a0_11, .int .i8 a0_12, .int .i8 a0_13, .int .i8 a0_14, .int .i8 a0_15, .int .i8 a0_16, .int .i8 a0_17, .int .i8 a0_18, .int .i8 a0_19, .int .i8 a0_20, .int .i8 a0_21, .int .i8 a0_22, .int .i8 a0_23, .int .i8 a0_24, .int .i8 a0_25, .int .i8 a0_26, .int .i8 a0_27, .slice A0_28 l0_28.length c0_28] [] 0 rfl (by (with_reducible repeat (first | refine blk_drewN ?_ _ | refine blk_drew ?_ | refine blk_alloc ?_ _)); exact BK770.out)) Tryd.underlying26 rfl (by exact (show (Tryd.prog.info? 26).map (·.size) = some 29 by kernel_rfl)) ?_) | ((with_reducible refine gate_callee (f := 18) rfl ?_); refine goesL_ (some 23) rfl rfl Tryd.func18 (by kernel_rfl) rfl #[.agg #[.int .i8 a0_0, .int .i8 a0_1, .int .i8 a0_2, .int .i8 a0_3, .int .i8 a0_4, .int .i8 a0_5, .int .i8 a0_6, .int .i8 a0_7, .int .i8 a0_8, .int .i8 a0_9, .int .i8 a0_10, .int .i8 a0_11, .int .i8 a0_12, .int .i8 a0_13, .int .i8 a0_14, .int .i8 a0_15, .int .i8 a0_16, .int .i8 a0_17, .int .i8 a0_18, .int .i8 a0_19, .int .i8 a0_20, .int .i8 a0_21, .int .i8 a0_22, .int .i8 a0_23, .int .i8 a0_24, .int .i8 a0_25, .int .i8 a0_26, .int .i8 a0_27, .slice A0_28 l0_28.length c0_28], .int .i64 1048576] rfl (by (try simp only [List.map_toArray, List.map_cons, List.map_nil]); first | done | rfl | (simp only [List.length_drop, List.length_take]; rfl)) ?_; (with_reducible refine (laws_szFace.calls a0_0 a0_1 a0_2 a0_3 a0_4 a0_5 a0_6 a0_7 a0_8 a0_9 a0_10 a0_11 a0_12 a0_13 a0_14 a0_15 a0_16 a0_17 a0_18 a0_19 a0_20 a0_21 a0_22 a0_23 a0_24 a0_25 a0_26 a0_27 _ _ l0_28 1048576 t771 _ ?side1 ?side2 A6.out).mono ?_); (case side1 => repeat (first | exact (Kd.C_below HR0_28.out HB.out) | (with_reducible refine Kd.C_alloc ?_ _) | (with_reducible refine Kd.C_drewN ?_ _) | (with_reducible refine Kd.C_drew ?_))); (case side2 => exact HC0_28.out); rintro e w16 ⟨rfl, hb⟩; refine ⟨_, rfl, ?_⟩; have n0_ := Aside0.mk (blk_below (g := gb770) (o := .cells #[.int .i8 a0_0, .int .i8 a0_1, .int .i8 a0_2, .int .i8 a0_3, .int .i8 a0_4, .int .i8 a0_5, .int .i8 a0_6, .int .i8 a0_7, .int .i8 a0_8, .int .i8 a0_9, .int .i8 a0_10, .int .i8 a0_11, .int .i8 a0_12, .int .i8 a0_13, .int .i8 a0_14, .int .i8 a0_15, .int .i8 a0_16, .int .i8 a0_17, .int .i8 a0_18, .int .i8 a0_19, .int .i8 a0_20, .int .i8 a0_21, .int .i8 a0_22, .int .i8 a0_23, .int .i8 a0_24, .int .i8 a0_25, .int .i8 a0_26, .int .i8 a0_27, .slice A0_28 l0_28.length c0_28] 26 (0, 0)) (by (with_reducible repeat (first | refine blk_drewN ?_ _ | refine blk_drew ?_ | refine blk_alloc ?_ _)); exact BK770.out) hb); have n1_ := Aside0.mk (below_step (by repeat (first | (with_reducible first | exact HB.out | apply below_alloc | apply pw_below_drewN | apply below_drew1 | refine below_set ?_ GE770.out) | exact HB.out)) hb); clear BK770; clear HB; have BK770 := n0_; have HB := n1_; clear n0_ n1_; (try clear hb); (try clear hb2); (try clear hk); (try clear hi)) | ((with_reducible refine gate_dst (N := 27) rfl ?_); refine wpList_load_mid rfl 26 (.tmp 3) rfl gb770 0 rfl [.int .i8 a0_0, .int .i8 a0_1, .int .i8 a0_2, .int .i8 a0_3, .int .i8 a0_4, .int .i8 a0_5, .int .i8 a0_6, .int .i8 a0_7, .int .i8 a0_8, .int .i8 a0_9, .int .i8 a0_10, .int .i8 a0_11, .int .i8 a0_12, .int .i8 a0_13, .int .i8 a0_14, .int .i8 a0_15, .int .i8 a0_16, .int .i8 a0_17, .int .i8 a0_18, .int .i8 a0_19, .int .i8 a0_20, .int .i8 a0_21, .int .i8 a0_22, .int .i8 a0_23, .int .i8 a0_24, .int .i8 a0_25, .int .i8 a0_26, .int .i8 a0_27, .slice A0_28 l0_28.length c0_28] _ (range_partx_ [] [.int .i8 a0_0, .int .i8 a0_1, .int .i8 a0_2, .int .i8 a0_3, .int .i8 a0_4, .int .i8 a0_5, .int .i8 a0_6, .int .i8 a0_7, .int .i8 a0_8, .int .i8 a0_9, .int .i8 a0_10, .int .i8 a0_11, .int .i8 a0_12, .int .i8 a0_13, .int .i8 a0_14, .int .i8 a0_15, .int .i8 a0_16, .int .i8 a0_17, .int .i8 a0_18, .int .i8 a0_19, .int .i8 a0_20, .int .i8 a0_21, .int .i8 a0_22, .int .i8 a0_23, .int .i8 a0_24, .int .i8 a0_25, .int .i8 a0_26, .int .i8 a0_27, .slice A0_28 l0_28.length c0_28] [] 0 rfl (by (with_reducible repeat (first | refine blk_drewN ?_ _ | refine blk_drew ?_ | refine blk_alloc ?_ _)); exact BK770.out)) Tryd.underlying26 rfl (by exact (show (Tryd.prog.info? 26).map (·.size) = some 29 by kernel_rfl)) ?_) | ((with_reducible refine gate_callee (f := 20) rfl ?_); refine goesL_ (some 28) rfl rfl Tryd.func20 (by kernel_rfl) rfl #[.agg #[.int .i8 a0_0, .int .i8 a0_1, .int .i8 a0_2, .int .i8 a0_3, .int .i8 a0_4, .int .i8 a0_5, .int .i8 a0_6, .int .i8 a0_7, .int .i8 a0_8, .int .i8 a0_9, .int .i8 a0_10, .int .i8 a0_11, .int .i8 a0_12, .int .i8 a0_13, .int .i8 a0_14, .int .i8 a0_15, .int .i8 a0_16, .int .i8 a0_17, .int .i8 a0_18, .int .i8 a0_19, .int .i8 a0_20, .int .i8 a0_21, .int .i8 a0_22, .int .i8 a0_23, .int .i8 a0_24, .int .i8 a0_25, .int .i8 a0_26, .int .i8 a0_27, .slice A0_28 l0_28.length c0_28]] rfl (by (try simp only [List.map_toArray, List.map_cons, List.map_nil]); first | done | rfl | (simp only [List.length_drop, List.length_take]; rfl)) ?_; (with_reducible refine (laws_toFace.calls a0_0 a0_1 a0_2 a0_3 a0_4 a0_5 a0_6 a0_7 a0_8 a0_9 a0_10 a0_11 a0_12 a0_13 a0_14 a0_15 a0_16 a0_17 a0_18 a0_19 a0_20 a0_21 a0_22 a0_23 a0_24 a0_25 a0_26 a0_27 _ _ l0_28 t772 t773 t774 t775 t776 t777 t778 t779 t780 t781 t782 t783 t784 t785 t786 t787 t788 t789 t790 t791 t792 t793 t794 t795 t796 t797 t798 t799 t800 _ ?side1 ?side2 A10.out).mono ?_); (case side1 => repeat (first | exact (Kd.C_below HR0_28.out HB.out) | (with_reducible refine Kd.C_alloc ?_ _) | (with_reducible refine Kd.C_drewN ?_ _) | (with_reducible refine Kd.C_drew ?_))); (case side2 => exact HC0_28.out); rintro e w17 ⟨v801, rfl, ho0, hb⟩; refine ⟨_, rfl, ?_⟩; have n0_ := Aside0.mk (Kd.R_lower ho0 (below_size (by repeat (first | (with_reducible first | exact HB.out | apply below_alloc | apply pw_below_drewN | apply below_drew1 | refine below_set ?_ GE770.out) | exact HB.out)))); have n1_ := Aside0.mk (blk_below (g := gb770) (o := .cells #[.int .i8 a0_0, .int .i8 a0_1, .int .i8 a0_2, .int .i8 a0_3, .int .i8 a0_4, .int .i8 a0_5, .int .i8 a0_6, .int .i8 a0_7, .int .i8 a0_8, .int .i8 a0_9, .int .i8 a0_10, .int .i8 a0_11, .int .i8 a0_12, .int .i8 a0_13, .int .i8 a0_14, .int .i8 a0_15, .int .i8 a0_16, .int .i8 a0_17, .int .i8 a0_18, .int .i8 a0_19, .int .i8 a0_20, .int .i8 a0_21, .int .i8 a0_22, .int .i8 a0_23, .int .i8 a0_24, .int .i8 a0_25, .int .i8 a0_26, .int .i8 a0_27, .slice A0_28 l0_28.length c0_28] 26 (0, 0)) (by (with_reducible repeat (first | refine blk_drewN ?_ _ | refine blk_drew ?_ | refine blk_alloc ?_ _)); exact BK770.out) hb); have n2_ := Aside0.mk (below_step (by repeat (first | (with_reducible first | exact HB.out | apply below_alloc | apply pw_below_drewN | apply below_drew1 | refine below_set ?_ GE770.out) | exact HB.out)) hb); clear BK770; clear HB; have HO802 := n0_; have BK770 := n1_; have HB := n2_; clear n0_ n1_ n2_; (try clear hb); (try clear hb2); (try clear hk); (try clear hi); (try clear ho0); obtain ⟨Ao18, co18, eo18⟩ := Kd.R_slice HO802.out; subst eo18) | ((with_reducible refine gate_callee (f := 33) rfl ?_); refine goesL_ (some 31) rfl rfl Tryd.func33 (by kernel_rfl) rfl #[.agg #[.int .i8 t772, .int .i8 t773, .int .i8 t774, .int .i8 t775, .int .i8 t776, .int .i8 t777, .int .i8 t778, .int .i8 t779, .int .i8 t780, .int .i8 t781, .int .i8 t782, .int .i8 t783, .int .i8 t784, .int .i8 t785, .int .i8 t786, .int .i8 t787, .int .i8 t788, .int .i8 t789, .int .i8 t790, .int .i8 t791, .int .i8 t792, .int .i8 t793, .int .i8 t794, .int .i8 t795, .int .i8 t796, .int .i8 t797, .int .i8 t798, .int .i8 t799, .slice Ao18 t800.length co18], .string a1, .int .i64 a2] rfl (by (try simp only [List.map_toArray, List.map_cons, List.map_nil]); first | done | rfl | (simp only [List.length_drop, List.length_take]; rfl)) ?_; (with_reducible refine (spec_JustifyLine.calls k t772 t773 t774 t775 t776 t777 t778 t779 t780 t781 t782 t783 t784 t785 t786 t787 t788 t789 t790 t791 t792 t793 t794 t795 t796 t797 t798 t799 _ _ t800 a1 a2 t803 t806 _ ?side1 ?side2 A11.out).mono ?_); (case side1 => repeat (first | exact (Kd.R_reads' HO802.out).2.2 | (with_reducible refine Kd.C_alloc ?_ _) | (with_reducible refine Kd.C_drewN ?_ _) | (with_reducible refine Kd.C_drew ?_))); (case side2 => exact (Kd.R_reads' HO802.out).2.1); rintro e w19 ⟨v804, rfl, ho0, hb⟩; refine ⟨_, rfl, ?_⟩; have n0_ := Aside0.mk (Kd.R_below (by (with_reducible repeat (first | apply Kd.R_alloc | apply Kd.R_drewN | apply Kd.R_drew)); exact HO802.out) hb); have n1_ := Aside0.mk (Kd.R_lower ho0 (below_size (by repeat (first | (with_reducible first | exact HB.out | apply below_alloc | apply pw_below_drewN | apply below_drew1 | refine below_set ?_ GE770.out) | exact HB.out)))); have n2_ := Aside0.mk (blk_below (g := gb770) (o := .cells #[.int .i8 a0_0, .int .i8 a0_1, .int .i8 a0_2, .int .i8 a0_3, .int .i8 a0_4, .int .i8 a0_5, .int .i8 a0_6, .int .i8 a0_7, .int .i8 a0_8, .int .i8 a0_9, .int .i8 a0_10, .int .i8 a0_11, .int .i8 a0_12, .int .i8 a0_13, .int .i8 a0_14, .int .i8 a0_15, .int .i8 a0_16, .int .i8 a0_17, .int .i8 a0_18, .int .i8 a0_19, .int .i8 a0_20, .int .i8 a0_21, .int .i8 a0_22, .int .i8 a0_23, .int .i8 a0_24, .int .i8 a0_25, .int .i8 a0_26, .int .i8 a0_27, .slice A0_28 l0_28.length c0_28] 26 (0, 0)) (by (with_reducible repeat (first | refine blk_drewN ?_ _ | refine blk_drew ?_ | refine blk_alloc ?_ _)); exact BK770.out) hb); have n3_ := Aside0.mk (below_step (by repeat (first | (with_reducible first | exact HB.out | apply below_alloc | apply pw_below_drewN | apply below_drew1 | refine below_set ?_ GE770.out) | exact HB.out)) hb); clear HO802; clear BK770; clear HB; have HO802 := n0_; have HO805 := n1_; have BK770 := n2_; have HB := n3_; clear n0_ n1_ n2_ n3_; (try clear hb); (try clear hb2); (try clear hk); (try clear hi); (try clear ho0)) | ((with_reducible refine gate_dst (N := 34) rfl ?_); refine wpList_load_mid rfl 26 (.tmp 3) rfl gb770 0 rfl [.int .i8 a0_0, .int .i8 a0_1, .int .i8 a0_2, .int .i8 a0_3, .int .i8 a0_4, .int .i8 a0_5, .int .i8 a0_6, .int .i8 a0_7, .int .i8 a0_8, .int .i8 a0_9, .int .i8 a0_10, .int .i8 a0_11, .int .i8 a0_12, .int .i8 a0_13, .int .i8 a0_14, .int .i8 a0_15, .int .i8 a0_16, .int .i8 a0_17, .int .i8 a0_18, .int .i8 a0_19, .int .i8 a0_20, .int .i8 a0_21, .int .i8 a0_22, .int .i8 a0_23, .int .i8 a0_24, .int .i8 a0_25, .int .i8 a0_26, .int .i8 a0_27, .slice A0_28 l0_28.length c0_28] _ (range_partx_ [] [.int .i8 a0_0, .int .i8 a0_1, .int .i8 a0_2, .int .i8 a0_3, .int .i8 a0_4, .int .i8 a0_5, .int .i8 a0_6, .int .i8 a0_7, .int .i8 a0_8, .int .i8 a0_9, .int .i8 a0_10, .int .i8 a0_11, .int .i8 a0_12, .int .i8 a0_13, .int .i8 a0_14, .int .i8 a0_15, .int .i8 a0_16, .int .i8 a0_17, .int .i8 a0_18, .int .i8 a0_19, .int .i8 a0_20, .int .i8 a0_21, .int .i8 a0_22, .int .i8 a0_23, .int .i8 a0_24, .int .i8 a0_25, .int .i8 a0_26, .int .i8 a0_27, .slice A0_28 l0_28.length c0_28] [] 0 rfl (by (with_reducible repeat (first | refine blk_drewN ?_ _ | refine blk_drew ?_ | refine blk_alloc ?_ _)); exact BK770.out)) Tryd.underlying26 rfl (by exact (show (Tryd.prog.info? 26).map (·.size) = some 29 by kernel_rfl)) ?_) | ((with_reducible refine gate_callee (f := 20) rfl ?_); refine goesL_ (some 35) rfl rfl Tryd.func20 (by kernel_rfl) rfl #[.agg #[.int .i8 a0_0, .int .i8 a0_1, .int .i8 a0_2, .int .i8 a0_3, .int .i8 a0_4, .int .i8 a0_5, .int .i8 a0_6, .int .i8 a0_7, .int .i8 a0_8, .int .i8 a0_9, .int .i8 a0_10, .int .i8 a0_11, .int .i8 a0_12, .int .i8 a0_13, .int .i8 a0_14, .int .i8 a0_15, .int .i8 a0_16, .int .i8 a0_17, .int .i8 a0_18, .int .i8 a0_19, .int .i8 a0_20, .int .i8 a0_21, .int .i8 a0_22, .int .i8 a0_23, .int .i8 a0_24, .int .i8 a0_25, .int .i8 a0_26, .int .i8 a0_27, .slice A0_28 l0_28.length c0_28]] rfl (by (try simp only [List.map_toArray, List.map_cons, List.map_nil]); first | done | rfl | (simp only [List.length_drop, List.length_take]; rfl)) ?_; (with_reducible refine (laws_toFace.calls a0_0 a0_1 a0_2 a0_3 a0_4 a0_5 a0_6 a0_7 a0_8 a0_9 a0_10 a0_11 a0_12 a0_13 a0_14 a0_15 a0_16 a0_17 a0_18 a0_19 a0_20 a0_21 a0_22 a0_23 a0_24 a0_25 a0_26 a0_27 _ _ l0_28 t807 t808 t809 t810 t811 t812 t813 t814 t815 t816 t817 t818 t819 t820 t821 t822 t823 t824 t825 t826 t827 t828 t829 t830 t831 t832 t833 t834 t835 _ ?side1 ?side2 A12.out).mono ?_); (case side1 => repeat (first | exact (Kd.C_below HR0_28.out HB.out) | (with_reducible refine Kd.C_alloc ?_ _) | (with_reducible refine Kd.C_drewN ?_ _) | (with_reducible refine Kd.C_drew ?_))); (case side2 => exact HC0_28.out); rintro e w20 ⟨v836, rfl, ho0, hb⟩; refine ⟨_, rfl, ?_⟩; have n0_ := Aside0.mk (Kd.R_elder' (by (with_reducible repeat (first | apply Kd.R_alloc | apply Kd.R_drewN | apply Kd.R_drew)); exact HO802.out) (Kd.R_base ho0) hb); have n1_ := Aside0.mk (Kd.R_below (by (with_reducible repeat (first | apply Kd.R_alloc | apply Kd.R_drewN | apply Kd.R_drew)); exact HO805.out) hb); have n2_ := Aside0.mk (Kd.R_lower (Kd.R_new' ho0 (Kd.R_lt (by (with_reducible repeat (first | apply Kd.R_alloc | apply Kd.R_drewN | apply Kd.R_drew)); exact HO802.out))) (below_size (by repeat (first | (with_reducible first | exact HB.out | apply below_alloc | apply pw_below_drewN | apply below_drew1 | refine below_set ?_ GE770.out) | exact HB.out)))); have n3_ := Aside0.mk (blk_below (g := gb770) (o := .cells #[.int .i8 a0_0, .int .i8 a0_1, .int .i8 a0_2, .int .i8 a0_3, .int .i8 a0_4, .int .i8 a0_5, .int .i8 a0_6, .int .i8 a0_7, .int .i8 a0_8, .int .i8 a0_9, .int .i8 a0_10, .int .i8 a0_11, .int .i8 a0_12, .int .i8 a0_13, .int .i8 a0_14, .int .i8 a0_15, .int .i8 a0_16, .int .i8 a0_17, .int .i8 a0_18, .int .i8 a0_19, .int .i8 a0_20, .int .i8 a0_21, .int .i8 a0_22, .int .i8 a0_23, .int .i8 a0_24, .int .i8 a0_25, .int .i8 a0_26, .int .i8 a0_27, .slice A0_28 l0_28.length c0_28] 26 (0, 0)) (by (with_reducible repeat (first | refine blk_drewN ?_ _ | refine blk_drew ?_ | refine blk_alloc ?_ _)); exact BK770.out) hb); have n4_ := Aside0.mk (below_step (by repeat (first | (with_reducible first | exact HB.out | apply below_alloc | apply pw_below_drewN | apply below_drew1 | refine below_set ?_ GE770.out) | exact HB.out)) hb); clear HO802; clear HO805; clear BK770; clear HB; have HO802 := n0_; have HO805 := n1_; have HO837 := n2_; have BK770 := n3_; have HB := n4_; clear n0_ n1_ n2_ n3_ n4_; (try clear hb); (try clear hb2); (try clear hk); (try clear hi); (try clear ho0)) | ((with_reducible refine gate_dst (N := 10) rfl ?_); refine box_event ?hg (N := 10) ?hd (cs := #[.int .i8 0, .int .i8 0, .int .i8 0, .int .i8 0, .int .i8 0, .int .i8 0, .int .i8 0, .int .i8 0, .int .i8 0, .int .i8 0, .int .i8 0, .int .i8 0, .int .i8 0, .int .i8 0, .int .i8 0, .int .i8 0, .int .i8 0, .int .i8 0, .int .i8 0, .int .i8 0, .int .i8 0, .int .i8 0, .int .i8 0, .int .i8 0, .int .i8 0, .int .i8 0, .int .i8 0, .int .i8 0, .slice none 0 0]) (t := 32) ?hr ?_; (case hd => rfl); (case hg => rfl); (case hr => first | (go_simp; done) | (go_simp; rfl)); intro gb838 hg w21 hbox hb; have n0_ := Aside0.mk (Kd.R_below (by (with_reducible repeat (first | apply Kd.R_alloc | apply Kd.R_drewN | apply Kd.R_drew)); exact HO802.out) hb); have n1_ := Aside0.mk (Kd.R_below (by (with_reducible repeat (first | apply Kd.R_alloc | apply Kd.R_drewN | apply Kd.R_drew)); exact HO805.out) hb); have n2_ := Aside0.mk (Kd.R_below (by (with_reducible repeat (first | apply Kd.R_alloc | apply Kd.R_drewN | apply Kd.R_drew)); exact HO837.out) hb); have n3_ := Aside0.mk (blk_below (g := gb770) (o := .cells #[.int .i8 a0_0, .int .i8 a0_1, .int .i8 a0_2, .int .i8 a0_3, .int .i8 a0_4, .int .i8 a0_5, .int .i8 a0_6, .int .i8 a0_7, .int .i8 a0_8, .int .i8 a0_9, .int .i8 a0_10, .int .i8 a0_11, .int .i8 a0_12, .int .i8 a0_13, .int .i8 a0_14, .int .i8 a0_15, .int .i8 a0_16, .int .i8 a0_17, .int .i8 a0_18, .int .i8 a0_19, .int .i8 a0_20, .int .i8 a0_21, .int .i8 a0_22, .int .i8 a0_23, .int .i8 a0_24, .int .i8 a0_25, .int .i8 a0_26, .int .i8 a0_27, .slice A0_28 l0_28.length c0_28] 26 (0, 0)) (by (with_reducible repeat (first | refine blk_drewN ?_ _ | refine blk_drew ?_ | refine blk_alloc ?_ _)); exact BK770.out) hb); have n4_ := Aside0.mk (below_step (by repeat (first | (with_reducible first | exact HB.out | apply below_alloc | apply pw_below_drewN | apply below_drew1 | refine below_set ?_ GE770.out) | exact HB.out)) hb); have n5_ := Aside0.mk (hbox); have n6_ := Aside0.mk ((by rw [hg]; exact (below_size (by repeat (first | (with_reducible first | exact HB.out | apply below_alloc | apply pw_below_drewN | apply below_drew1 | refine below_set ?_ GE770.out) | exact HB.out))) : w.heap.size ≤ gb838)); have n7_ := Aside0.mk ((by rw [hg]; exact (below_size (by repeat (first | (with_reducible first | exact HB.out | apply below_alloc | apply pw_below_drewN | apply below_drew1 | refine below_set ?_ GE770.out) | exact HB.out))) : w.heap.size ≤ gb838)); have n8_ := Aside0.mk ((by rw [hg]; exact Nat.ne_of_lt (blk_lt (g := gb770) (o := .cells #[.int .i8 a0_0, .int .i8 a0_1, .int .i8 a0_2, .int .i8 a0_3, .int .i8 a0_4, .int .i8 a0_5, .int .i8 a0_6, .int .i8 a0_7, .int .i8 a0_8, .int .i8 a0_9, .int .i8 a0_10, .int .i8 a0_11, .int .i8 a0_12, .int .i8 a0_13, .int .i8 a0_14, .int .i8 a0_15, .int .i8 a0_16, .int .i8 a0_17, .int .i8 a0_18, .int .i8 a0_19, .int .i8 a0_20, .int .i8 a0_21, .int .i8 a0_22, .int .i8 a0_23, .int .i8 a0_24, .int .i8 a0_25, .int .i8 a0_26, .int .i8 a0_27, .slice A0_28 l0_28.length c0_28] 26 (0, 0)) (by (with_reducible repeat (first | refine blk_drewN ?_ _ | refine blk_drew ?_ | refine blk_alloc ?_ _)); exact BK770.out)) : gb770 ≠ gb838)); have n9_ := Aside0.mk ((by rw [hg]; exact Nat.ne_of_gt (blk_lt (g := gb770) (o := .cells #[.int .i8 a0_0, .int .i8 a0_1, .int .i8 a0_2, .int .i8 a0_3, .int .i8 a0_4, .int .i8 a0_5, .int .i8 a0_6, .int .i8 a0_7, .int .i8 a0_8, .int .i8 a0_9, .int .i8 a0_10, .int .i8 a0_11, .int .i8 a0_12, .int .i8 a0_13, .int .i8 a0_14, .int .i8 a0_15, .int .i8 a0_16, .int .i8 a0_17, .int .i8 a0_18, .int .i8 a0_19, .int .i8 a0_20, .int .i8 a0_21, .int .i8 a0_22, .int .i8 a0_23, .int .i8 a0_24, .int .i8 a0_25, .int .i8 a0_26, .int .i8 a0_27, .slice A0_28 l0_28.length c0_28] 26 (0, 0)) (by (with_reducible repeat (first | refine blk_drewN ?_ _ | refine blk_drew ?_ | refine blk_alloc ?_ _)); exact BK770.out)) : gb838 ≠ gb770)); clear HO802; clear HO805; clear HO837; clear BK770; clear HB; have HO802 := n0_; have HO805 := n1_; have HO837 := n2_; have BK770 := n3_; have HB := n4_; have BK838 := n5_; have GW838 := n6_; have GE838 := n7_; have NB770_838 := n8_; have NB838_770 := n9_; clear n0_ n1_ n2_ n3_ n4_ n5_ n6_ n7_ n8_ n9_; clear hb hbox hg; obtain ⟨Ao22, co22, eo22⟩ := Kd.R_slice HO837.out; subst eo22) | ((with_reducible refine gate_store (t := 32) (p := 10) rfl ?_); refine ev_store_partx_ rfl 32 (.tmp 10) (.tmp 35) rfl rfl gb838 0 [] [.int .i8 0, .int .i8 0, .int .i8 0, .int .i8 0, .int .i8 0, .int .i8 0, .int .i8 0, .int .i8 0, .int .i8 0, .int .i8 0, .int .i8 0, .int .i8 0, .int .i8 0, .int .i8 0, .int .i8 0, .int .i8 0, .int .i8 0, .int .i8 0, .int .i8 0, .int .i8 0, .int .i8 0, .int .i8 0, .int .i8 0, .int .i8 0, .int .i8 0, .int .i8 0, .int .i8 0, .int .i8 0, .slice none 0 0] [.int .i8 t807, .int .i8 t808, .int .i8 t809, .int .i8 t810, .int .i8 t811, .int .i8 t812, .int .i8 t813, .int .i8 t814, .int .i8 t815, .int .i8 t816, .int .i8 t817, .int .i8 t818, .int .i8 t819, .int .i8 t820, .int .i8 t821, .int .i8 t822, .int .i8 t823, .int .i8 t824, .int .i8 t825, .int .i8 t826, .int .i8 t827, .int .i8 t828, .int .i8 t829, .int .i8 t830, .int .i8 t831, .int .i8 t832, .int .i8 t833, .int .i8 t834, .slice Ao22 t835.length co22] [] rfl rfl 32 rfl rfl (by (with_reducible repeat (first | refine blk_drewN ?_ _ | refine blk_drew ?_ | refine blk_alloc ?_ _)); exact BK838.out) (by exact (show (Tryd.prog.info? 32).map (·.size) = some 29 by kernel_rfl)) rfl ?_; intro w23 hblk hkep hbel; have n0_ := Aside0.mk ((show w23.heap[gb838]? = some (.cells #[.int .i8 t807, .int .i8 t808, .int .i8 t809, .int .i8 t810, .int .i8 t811, .int .i8 t812, .int .i8 t813, .int .i8 t814, .int .i8 t815, .int .i8 t816, .int .i8 t817, .int .i8 t818, .int .i8 t819, .int .i8 t820, .int .i8 t821, .int .i8 t822, .int .i8 t823, .int .i8 t824, .int .i8 t825, .int .i8 t826, .int .i8 t827, .int .i8 t828, .int .i8 t829, .int .i8 t830, .int .i8 t831, .int .i8 t832, .int .i8 t833, .int .i8 t834, .slice Ao22 t835.length co22] 32 (0, 0)) from hblk)); have n1_ := Aside0.mk (blk_kept (by (with_reducible repeat (first | refine blk_drewN ?_ _ | refine blk_drew ?_ | refine blk_alloc ?_ _)); exact BK770.out) hkep (fun e_ => NB770_838.out e_)); have n2_ := Aside0.mk (Kd.R_mono (Kd.R_kept (Kd.R_types (by (with_reducible repeat (first | apply Kd.R_alloc | apply Kd.R_drewN | apply Kd.R_drew)); exact HO802.out) (by (with_reducible repeat (first | refine blk_drewN ?_ _ | refine blk_drew ?_ | refine blk_alloc ?_ _)); exact BK838.out) (by decide)) hkep (fun k_ hk e_ => hk.2 e_)) (fun k_ hk => hk.1)); have n3_ := Aside0.mk (Kd.R_mono (Kd.R_kept (Kd.R_types (by (with_reducible repeat (first | apply Kd.R_alloc | apply Kd.R_drewN | apply Kd.R_drew)); exact HO805.out) (by (with_reducible repeat (first | refine blk_drewN ?_ _ | refine blk_drew ?_ | refine blk_alloc ?_ _)); exact BK838.out) (by decide)) hkep (fun k_ hk e_ => hk.2 e_)) (fun k_ hk => hk.1)); have n4_ := Aside0.mk (Kd.R_mono (Kd.R_kept (Kd.R_types (by (with_reducible repeat (first | apply Kd.R_alloc | apply Kd.R_drewN | apply Kd.R_drew)); exact HO837.out) (by (with_reducible repeat (first | refine blk_drewN ?_ _ | refine blk_drew ?_ | refine blk_alloc ?_ _)); exact BK838.out) (by decide)) hkep (fun k_ hk e_ => hk.2 e_)) (fun k_ hk => hk.1)); have n5_ := Aside0.mk ((show Below w.heap.size w w23 from Below.trans (by repeat (first | (with_reducible first | exact HB.out | apply below_alloc | apply pw_below_drewN | apply below_drew1 | refine below_set ?_ GE770.out | refine below_set ?_ GE838.out) | exact HB.out)) (hbel _ GW838.out))); clear BK838; clear BK770; clear HO802; clear HO805; clear HO837; clear HB; have BK838 := n0_; have BK770 := n1_; have HO802 := n2_; have HO805 := n3_; have HO837 := n4_; have HB := n5_; clear n0_ n1_ n2_ n3_ n4_ n5_; clear hblk hkep hbel) | ((with_reducible refine gate_dst (N := 37) rfl ?_); refine wpList_load_mid rfl 32 (.tmp 10) rfl gb838 0 rfl [.int .i8 t807, .int .i8 t808, .int .i8 t809, .int .i8 t810, .int .i8 t811, .int .i8 t812, .int .i8 t813, .int .i8 t814, .int .i8 t815, .int .i8 t816, .int .i8 t817, .int .i8 t818, .int .i8 t819, .int .i8 t820, .int .i8 t821, .int .i8 t822, .int .i8 t823, .int .i8 t824, .int .i8 t825, .int .i8 t826, .int .i8 t827, .int .i8 t828, .int .i8 t829, .int .i8 t830, .int .i8 t831, .int .i8 t832, .int .i8 t833, .int .i8 t834, .slice Ao22 t835.length co22] _ (range_partx_ [] [.int .i8 t807, .int .i8 t808, .int .i8 t809, .int .i8 t810, .int .i8 t811, .int .i8 t812, .int .i8 t813, .int .i8 t814, .int .i8 t815, .int .i8 t816, .int .i8 t817, .int .i8 t818, .int .i8 t819, .int .i8 t820, .int .i8 t821, .int .i8 t822, .int .i8 t823, .int .i8 t824, .int .i8 t825, .int .i8 t826, .int .i8 t827, .int .i8 t828, .int .i8 t829, .int .i8 t830, .int .i8 t831, .int .i8 t832, .int .i8 t833, .int .i8 t834, .slice Ao22 t835.length co22] [] 0 rfl (by (with_reducible repeat (first | refine blk_drewN ?_ _ | refine blk_drew ?_ | refine blk_alloc ?_ _)); exact BK838.out)) Tryd.underlying32 rfl (by exact (show (Tryd.prog.info? 32).map (·.size) = some 29 by kernel_rfl)) ?_) | ((with_reducible refine gate_callee (f := 34) rfl ?_); refine goesL_ (some 40) rfl rfl Tryd.func34 (by kernel_rfl) rfl #[.agg #[.int .i8 t807, .int .i8 t808, .int .i8 t809, .int .i8 t810, .int .i8 t811, .int .i8 t812, .int .i8 t813, .int .i8 t814, .int .i8 t815, .int .i8 t816, .int .i8 t817, .int .i8 t818, .int .i8 t819, .int .i8 t820, .int .i8 t821, .int .i8 t822, .int .i8 t823, .int .i8 t824, .int .i8 t825, .int .i8 t826, .int .i8 t827, .int .i8 t828, .int .i8 t829, .int .i8 t830, .int .i8 t831, .int .i8 t832, .int .i8 t833, .int .i8 t834, .slice Ao22 t835.length co22], .string a1, .int .i64 a2] rfl (by (try simp only [List.map_toArray, List.map_cons, List.map_nil]); first | done | rfl | (simp only [List.length_drop, List.length_take]; rfl)) ?_; (with_reducible refine (impl_JustifyLine.calls k t807 t808 t809 t810 t811 t812 t813 t814 t815 t816 t817 t818 t819 t820 t821 t822 t823 t824 t825 t826 t827 t828 t829 t830 t831 t832 t833 t834 _ _ t835 a1 a2 t839 t842 _ ?side1 ?side2 ?sideG A13.out).mono ?_); (case sideG => first | exact HG.out.below (by repeat (first | (with_reducible first | exact HB.out | apply below_alloc | apply pw_below_drewN | apply below_drew1) | exact HB.out)) | exact (HG.out.below (by repeat (first | (with_reducible first | exact HB.out | apply below_alloc | apply pw_below_drewN | apply below_drew1) | exact HB.out))).toM); (case side1 => repeat (first | exact (Kd.R_reads' HO837.out).2.2 | (with_reducible refine Kd.C_alloc ?_ _) | (with_reducible refine Kd.C_drewN ?_ _) | (with_reducible refine Kd.C_drew ?_))); (case side2 => exact (Kd.R_reads' HO837.out).2.1); rintro e w24 ⟨v840, rfl, ho0, hb⟩; refine ⟨_, rfl, ?_⟩; have n0_ := Aside0.mk (Kd.R_below (by (with_reducible repeat (first | apply Kd.R_alloc | apply Kd.R_drewN | apply Kd.R_drew)); exact HO802.out) hb); have n1_ := Aside0.mk (Kd.R_elder' (by (with_reducible repeat (first | apply Kd.R_alloc | apply Kd.R_drewN | apply Kd.R_drew)); exact HO805.out) (Kd.R_base ho0) hb); have n2_ := Aside0.mk (Kd.R_below (by (with_reducible repeat (first | apply Kd.R_alloc | apply Kd.R_drewN | apply Kd.R_drew)); exact HO837.out) hb); have n3_ := Aside0.mk (Kd.R_lower (Kd.R_new' ho0 (Kd.R_lt (by (with_reducible repeat (first | apply Kd.R_alloc | apply Kd.R_drewN | apply Kd.R_drew)); exact HO805.out))) (below_size (by repeat (first | (with_reducible first | exact HB.out | apply below_alloc | apply pw_below_drewN | apply below_drew1 | refine below_set ?_ GE770.out | refine below_set ?_ GE838.out) | exact HB.out)))); have n4_ := Aside0.mk (blk_below (g := gb770) (o := .cells #[.int .i8 a0_0, .int .i8 a0_1, .int .i8 a0_2, .int .i8 a0_3, .int .i8 a0_4, .int .i8 a0_5, .int .i8 a0_6, .int .i8 a0_7, .int .i8 a0_8, .int .i8 a0_9, .int .i8 a0_10, .int .i8 a0_11, .int .i8 a0_12, .int .i8 a0_13, .int .i8 a0_14, .int .i8 a0_15, .int .i8 a0_16, .int .i8 a0_17, .int .i8 a0_18, .int .i8 a0_19, .int .i8 a0_20, .int .i8 a0_21, .int .i8 a0_22, .int .i8 a0_23, .int .i8 a0_24, .int .i8 a0_25, .int .i8 a0_26, .int .i8 a0_27, .slice A0_28 l0_28.length c0_28] 26 (0, 0)) (by (with_reducible repeat (first | refine blk_drewN ?_ _ | refine blk_drew ?_ | refine blk_alloc ?_ _)); exact BK770.out) hb); have n5_ := Aside0.mk (blk_below (g := gb838) (o := .cells #[.int .i8 t807, .int .i8 t808, .int .i8 t809, .int .i8 t810, .int .i8 t811, .int .i8 t812, .int .i8 t813, .int .i8 t814, .int .i8 t815, .int .i8 t816, .int .i8 t817, .int .i8 t818, .int .i8 t819, .int .i8 t820, .int .i8 t821, .int .i8 t822, .int .i8 t823, .int .i8 t824, .int .i8 t825, .int .i8 t826, .int .i8 t827, .int .i8 t828, .int .i8 t829, .int .i8 t830, .int .i8 t831, .int .i8 t832, .int .i8 t833, .int .i8 t834, .slice Ao22 t835.length co22] 32 (0, 0)) (by (with_reducible repeat (first | refine blk_drewN ?_ _ | refine blk_drew ?_ | refine blk_alloc ?_ _)); exact BK838.out) hb); have n6_ := Aside0.mk (below_step (by repeat (first | (with_reducible first | exact HB.out | apply below_alloc | apply pw_below_drewN | apply below_drew1 | refine below_set ?_ GE770.out | refine below_set ?_ GE838.out) | exact HB.out)) hb); clear HO802; clear HO805; clear HO837; clear BK770; clear BK838; clear HB; have HO802 := n0_; have HO805 := n1_; have HO837 := n2_; have HO841 := n3_; have BK770 := n4_; have BK838 := n5_; have HB := n6_; clear n0_ n1_ n2_ n3_ n4_ n5_ n6_; (try clear hb); (try clear hb2); (try clear hk); (try clear hi); (try clear ho0)))
      (try simp only [Act.put, List.setIfInBounds_toArray, List.set_cons_zero, List.set_cons_succ])
      go_cut [51] (fun v51 wc => ∃ (kq : Nat) (x51_13 : Bool), v51 = .bool x51_13 ∧ Aside0 (laws_FnExactJustifyLine.j0 kq a1 a2 t803 t806 t839 t842 x51_13 a0_0 a0_1 a0_2 a0_3 a0_4 a0_5 a0_6 a0_7 a0_8 a0_9 a0_10 a0_11 a0_12 a0_13 a0_14 a0_15 a0_16 a0_17 a0_18 a0_19 a0_20 a0_21 a0_22 a0_23 a0_24 a0_25 a0_26 a0_27 l0_28 t807 t808 t809 t810 t811 t812 t813 t814 t815 t816 t817 t818 t819 t820 t821 t822 t823 t824 t825 t826 t827 t828 t829 t830 t831 t832 t833 t834 t835 = some r) ∧ Aside0 (kq ≤ k) ∧ Aside0 (Kd.R (Kd.int .i64) 2 wc w.heap.size (fun k_ => some k_ ≠ (v840 : Value).ownBlock) v804 t803) ∧ Aside0 (Kd.R (Kd.int .i64) 2 wc w.heap.size (fun k_ => some k_ ≠ (v804 : Value).ownBlock) v840 t839) ∧ Aside0 (Kd.R k137 137 wc w.heap.size (fun _ => True) (.slice Ao22 t835.length co22) t835) ∧ Aside0 (wc.heap[gb770]? = some (.cells #[.int .i8 a0_0, .int .i8 a0_1, .int .i8 a0_2, .int .i8 a0_3, .int .i8 a0_4, .int .i8 a0_5, .int .i8 a0_6, .int .i8 a0_7, .int .i8 a0_8, .int .i8 a0_9, .int .i8 a0_10, .int .i8 a0_11, .int .i8 a0_12, .int .i8 a0_13, .int .i8 a0_14, .int .i8 a0_15, .int .i8 a0_16, .int .i8 a0_17, .int .i8 a0_18, .int .i8 a0_19, .int .i8 a0_20, .int .i8 a0_21, .int .i8 a0_22, .int .i8 a0_23, .int .i8 a0_24, .int .i8 a0_25, .int .i8 a0_26, .int .i8 a0_27, (.slice A0_28 l0_28.length c0_28)] 26 (0, 0))) ∧ Aside0 (wc.heap[gb838]? = some (.cells #[.int .i8 t807, .int .i8 t808, .int .i8 t809, .int .i8 t810, .int .i8 t811, .int .i8 t812, .int .i8 t813, .int .i8 t814, .int .i8 t815, .int .i8 t816, .int .i8 t817, .int .i8 t818, .int .i8 t819, .int .i8 t820, .int .i8 t821, .int .i8 t822, .int .i8 t823, .int .i8 t824, .int .i8 t825, .int .i8 t826, .int .i8 t827, .int .i8 t828, .int .i8 t829, .int .i8 t830, .int .i8 t831, .int .i8 t832, .int .i8 t833, .int .i8 t834, (.slice Ao22 t835.length co22)] 32 (0, 0))) ∧ Aside0 (Below w.heap.size w wc))
      case first =>
        have H := HC14.out
        clear HC14
        replace H := Option.bind_eq_some_iff.mp H
        obtain ⟨t843, A250, H⟩ := H
        replace H : (if t843 = true then (laws_FnExactJustifyLine.j0 k a1 a2 t803 t806 t839 t842 (t842 != t806) a0_0 a0_1 a0_2 a0_3 a0_4 a0_5 a0_6 a0_7 a0_8 a0_9 a0_10 a0_11 a0_12 a0_13 a0_14 a0_15 a0_16 a0_17 a0_18 a0_19 a0_20 a0_21 a0_22 a0_23 a0_24 a0_25 a0_26 a0_27 l0_28 t807 t808 t809 t810 t811 t812 t813 t814 t815 t816 t817 t818 t819 t820 t821 t822 t823 t824 t825 t826 t827 t828 t829 t830 t831 t832 t833 t834 t835) else (laws_FnExactJustifyLine.j0 k a1 a2 t803 t806 t839 t842 true a0_0 a0_1 a0_2 a0_3 a0_4 a0_5 a0_6 a0_7 a0_8 a0_9 a0_10 a0_11 a0_12 a0_13 a0_14 a0_15 a0_16 a0_17 a0_18 a0_19 a0_20 a0_21 a0_22 a0_23 a0_24 a0_25 a0_26 a0_27 l0_28 t807 t808 t809 t810 t811 t812 t813 t814 t815 t816 t817 t818 t819 t820 t821 t822 t823 t824 t825 t826 t827 t828 t829 t830 t831 t832 t833 t834 t835)) = some r := H
        have A25 := Aside0.mk A250
        clear A250
        by_cases c26 : t843 = true
        · subst c26
          have H1 : (laws_FnExactJustifyLine.j0 k a1 a2 t803 t806 t839 t842 (t842 != t806) a0_0 a0_1 a0_2 a0_3 a0_4 a0_5 a0_6 a0_7 a0_8 a0_9 a0_10 a0_11 a0_12 a0_13 a0_14 a0_15 a0_16 a0_17 a0_18 a0_19 a0_20 a0_21 a0_22 a0_23 a0_24 a0_25 a0_26 a0_27 l0_28 t807 t808 t809 t810 t811 t812 t813 t814 t815 t816 t817 t818 t819 t820 t821 t822 t823 t824 t825 t826 t827 t828 t829 t830 t831 t832 t833 t834 t835) = some r := by rw [if_pos rfl] at H; exact H
          clear H
          have H := H1
          clear H1
          have H' := Aside0.mk H
          clear H
          obtain ⟨Ao27, co27, eo27⟩ := Kd.R_slice HO841.out
          subst eo27
          obtain ⟨Ao28, co28, eo28⟩ := Kd.R_slice HO805.out
          subst eo28
          go_wp2_with (first | ((with_reducible refine gate_callee (f := 29) rfl ?_); refine goesL_ (some 45) rfl rfl Tryd.func29 (by kernel_rfl) rfl #[.slice Ao27 t839.length co27, .slice Ao28 t803.length co28] rfl (by (try simp only [List.map_toArray, List.map_cons, List.map_nil]); first | done | rfl | (simp only [List.length_drop, List.length_take]; rfl)) ?_; (with_reducible refine (laws_eqInt64S.calls k _ _ t839 _ _ t803 true _ ?side1 ?side2 ?side3 ?side4 A25.out).mono ?_); (case side1 => repeat (first | exact (Kd.R_reads' HO841.out).2.2 | (with_reducible refine Kd.C_alloc ?_ _) | (with_reducible refine Kd.C_drewN ?_ _) | (with_reducible refine Kd.C_drew ?_))); (case side2 => exact (Kd.R_reads' HO841.out).2.1); (case side3 => repeat (first | exact (Kd.R_reads' HO805.out).2.2 | (with_reducible refine Kd.C_alloc ?_ _) | (with_reducible refine Kd.C_drewN ?_ _) | (with_reducible refine Kd.C_drew ?_))); (case side4 => exact (Kd.R_reads' HO805.out).2.1); rintro e w' ⟨rfl, ⟨nd, rfl⟩⟩; refine ⟨_, rfl, ?_⟩))
          go_meet
          case rel => exact ⟨_, ((t842 != t806)), (by first | rfl | (simp; done) | (simp [*]; done)), H', ⟨by first | omega | exact Nat.le_refl _⟩, ⟨by (with_reducible repeat (first | apply Kd.R_alloc | apply Kd.R_drewN | apply Kd.R_drew)); exact Kd.R_mono HO805.out (fun _ hk => hk.2)⟩, ⟨by (with_reducible repeat (first | apply Kd.R_alloc | apply Kd.R_drewN | apply Kd.R_drew)); exact Kd.R_mono HO841.out (fun _ hk => hk.2)⟩, ⟨by (with_reducible repeat (first | apply Kd.R_alloc | apply Kd.R_drewN | apply Kd.R_drew)); exact Kd.R_mono HO837.out (fun _ hk => trivial)⟩, ⟨by (with_reducible repeat (first | refine blk_drewN ?_ _ | refine blk_drew ?_ | refine blk_alloc ?_ _)); exact BK770.out⟩, ⟨by (with_reducible repeat (first | refine blk_drewN ?_ _ | refine blk_drew ?_ | refine blk_alloc ?_ _)); exact BK838.out⟩, ⟨by repeat (first | (with_reducible first | exact HB.out | apply below_alloc | apply pw_below_drewN | apply below_drew1 | refine below_set ?_ GE770.out | refine below_set ?_ GE838.out) | exact HB.out)⟩⟩
        · replace c26 := Bool.eq_false_iff.mpr c26
          subst c26
          have H1 : (laws_FnExactJustifyLine.j0 k a1 a2 t803 t806 t839 t842 true a0_0 a0_1 a0_2 a0_3 a0_4 a0_5 a0_6 a0_7 a0_8 a0_9 a0_10 a0_11 a0_12 a0_13 a0_14 a0_15 a0_16 a0_17 a0_18 a0_19 a0_20 a0_21 a0_22 a0_23 a0_24 a0_25 a0_26 a0_27 l0_28 t807 t808 t809 t810 t811 t812 t813 t814 t815 t816 t817 t818 t819 t820 t821 t822 t823 t824 t825 t826 t827 t828 t829 t830 t831 t832 t833 t834 t835) = some r := by rw [if_neg (show ¬ (false = true) by decide)] at H; exact H
          clear H
          have H := H1
          clear H1
          have H' := Aside0.mk H
          clear H
          obtain ⟨Ao29, co29, eo29⟩ := Kd.R_slice HO841.out
          subst eo29
          obtain ⟨Ao30, co30, eo30⟩ := Kd.R_slice HO805.out
          subst eo30
          go_wp2_with (first | ((with_reducible refine gate_callee (f := 29) rfl ?_); refine goesL_ (some 45) rfl rfl Tryd.func29 (by kernel_rfl) rfl #[.slice Ao29 t839.length co29, .slice Ao30 t803.length co30] rfl (by (try simp only [List.map_toArray, List.map_cons, List.map_nil]); first | done | rfl | (simp only [List.length_drop, List.length_take]; rfl)) ?_; (with_reducible refine (laws_eqInt64S.calls k _ _ t839 _ _ t803 false _ ?side1 ?side2 ?side3 ?side4 A25.out).mono ?_); (case side1 => repeat (first | exact (Kd.R_reads' HO841.out).2.2 | (with_reducible refine Kd.C_alloc ?_ _) | (with_reducible refine Kd.C_drewN ?_ _) | (with_reducible refine Kd.C_drew ?_))); (case side2 => exact (Kd.R_reads' HO841.out).2.1); (case side3 => repeat (first | exact (Kd.R_reads' HO805.out).2.2 | (with_reducible refine Kd.C_alloc ?_ _) | (with_reducible refine Kd.C_drewN ?_ _) | (with_reducible refine Kd.C_drew ?_))); (case side4 => exact (Kd.R_reads' HO805.out).2.1); rintro e w' ⟨rfl, ⟨nd, rfl⟩⟩; refine ⟨_, rfl, ?_⟩))
          go_meet
          case rel => exact ⟨_, (true), (by first | rfl | (simp; done) | (simp [*]; done)), H', ⟨by first | omega | exact Nat.le_refl _⟩, ⟨by (with_reducible repeat (first | apply Kd.R_alloc | apply Kd.R_drewN | apply Kd.R_drew)); exact Kd.R_mono HO805.out (fun _ hk => hk.2)⟩, ⟨by (with_reducible repeat (first | apply Kd.R_alloc | apply Kd.R_drewN | apply Kd.R_drew)); exact Kd.R_mono HO841.out (fun _ hk => hk.2)⟩, ⟨by (with_reducible repeat (first | apply Kd.R_alloc | apply Kd.R_drewN | apply Kd.R_drew)); exact Kd.R_mono HO837.out (fun _ hk => trivial)⟩, ⟨by (with_reducible repeat (first | refine blk_drewN ?_ _ | refine blk_drew ?_ | refine blk_alloc ?_ _)); exact BK770.out⟩, ⟨by (with_reducible repeat (first | refine blk_drewN ?_ _ | refine blk_drew ?_ | refine blk_alloc ?_ _)); exact BK838.out⟩, ⟨by repeat (first | (with_reducible first | exact HB.out | apply below_alloc | apply pw_below_drewN | apply below_drew1 | refine below_set ?_ GE770.out | refine below_set ?_ GE838.out) | exact HB.out)⟩⟩
      case rest =>
        clear HC14
        try clear c1
        try clear c2
        try clear p2
        try clear c3
        try clear c4
        try clear c4b0
        try clear c4b1
        try clear c7
        try clear c7b0
        try clear c18
        try clear c20
        try clear c26
        try clear c29
        obtain ⟨kq, x51_13, rfl, HA, HJ13, HO_8, HO_11, HO_839028, BK770, BK838, HB⟩ := hcut
        cases kq with
        | zero => exact absurd HA.out (by simp [laws_FnExactJustifyLine.j0])
        | succ kj13 =>
          have H := HA.out
          clear HA
          simp only [laws_FnExactJustifyLine.j0] at H
          by_cases c31 : x51_13 = true
          · subst c31
            have H1 : (some false) = some r := by rw [if_pos rfl] at H; exact H
            clear H
            have H := H1
            clear H1
            obtain rfl := Option.some.inj H
            go_wp2
            go_ret
            exact ⟨by first | rfl | (simp [errW_none, errW_some] <;> rfl) | (simp [*, errW_none, errW_some] <;> rfl), by repeat (first | (with_reducible first | exact HB.out | apply below_alloc | apply pw_below_drewN | apply below_drew1 | refine below_set ?_ GE770.out | refine below_set ?_ GE838.out) | exact HB.out)⟩
          · replace c31 := Bool.eq_false_iff.mpr c31
            subst c31
            have H1 : ((laws_toFace.f a0_0 a0_1 a0_2 a0_3 a0_4 a0_5 a0_6 a0_7 a0_8 a0_9 a0_10 a0_11 a0_12 a0_13 a0_14 a0_15 a0_16 a0_17 a0_18 a0_19 a0_20 a0_21 a0_22 a0_23 a0_24 a0_25 a0_26 a0_27 l0_28).bind fun bt844 => ((laws_eqFace.f t807 t808 t809 t810 t811 t812 t813 t814 t815 t816 t817 t818 t819 t820 t821 t822 t823 t824 t825 t826 t827 t828 t829 t830 t831 t832 t833 t834 t835 bt844.1 bt844.2.1 bt844.2.2.1 bt844.2.2.2.1 bt844.2.2.2.2.1 bt844.2.2.2.2.2.1 bt844.2.2.2.2.2.2.1 bt844.2.2.2.2.2.2.2.1 bt844.2.2.2.2.2.2.2.2.1 bt844.2.2.2.2.2.2.2.2.2.1 bt844.2.2.2.2.2.2.2.2.2.2.1 bt844.2.2.2.2.2.2.2.2.2.2.2.1 bt844.2.2.2.2.2.2.2.2.2.2.2.2.1 bt844.2.2.2.2.2.2.2.2.2.2.2.2.2.1 bt844.2.2.2.2.2.2.2.2.2.2.2.2.2.2.1 bt844.2.2.2.2.2.2.2.2.2.2.2.2.2.2.2.1 bt844.2.2.2.2.2.2.2.2.2.2.2.2.2.2.2.2.1 bt844.2.2.2.2.2.2.2.2.2.2.2.2.2.2.2.2.2.1 bt844.2.2.2.2.2.2.2.2.2.2.2.2.2.2.2.2.2.2.1 bt844.2.2.2.2.2.2.2.2.2.2.2.2.2.2.2.2.2.2.2.1 bt844.2.2.2.2.2.2.2.2.2.2.2.2.2.2.2.2.2.2.2.2.1 bt844.2.2.2.2.2.2.2.2.2.2.2.2.2.2.2.2.2.2.2.2.2.1 bt844.2.2.2.2.2.2.2.2.2.2.2.2.2.2.2.2.2.2.2.2.2.2.1 bt844.2.2.2.2.2.2.2.2.2.2.2.2.2.2.2.2.2.2.2.2.2.2.2.1 bt844.2.2.2.2.2.2.2.2.2.2.2.2.2.2.2.2.2.2.2.2.2.2.2.2.1 bt844.2.2.2.2.2.2.2.2.2.2.2.2.2.2.2.2.2.2.2.2.2.2.2.2.2.1 bt844.2.2.2.2.2.2.2.2.2.2.2.2.2.2.2.2.2.2.2.2.2.2.2.2.2.2.1 bt844.2.2.2.2.2.2.2.2.2.2.2.2.2.2.2.2.2.2.2.2.2.2.2.2.2.2.2.1 bt844.2.2.2.2.2.2.2.2.2.2.2.2.2.2.2.2.2.2.2.2.2.2.2.2.2.2.2.2).bind fun t875 => (if t875 = true then ((laws_markFace.f kj13 t807 t808 t809 t810 t811 t812 t813 t814 t815 t816 t817 t818 t819 t820 t821 t822 t823 t824 t825 t826 t827 t828 t829 t830 t831 t832 t833 t834 t835 1).bind fun bt876 => (if bt876.1 < 0 then (laws_FnExactJustifyLine.j1 kj13 a1 a2 t803 t806 t839 true a0_0 a0_1 a0_2 a0_3 a0_4 a0_5 a0_6 a0_7 a0_8 a0_9 a0_10 a0_11 a0_12 a0_13 a0_14 a0_15 a0_16 a0_17 a0_18 a0_19 a0_20 a0_21 a0_22 a0_23 a0_24 a0_25 a0_26 a0_27 l0_28) else ((laws_eqInt64S.f kj13 t839 t803).bind fun t878 => (if t878 = true then (laws_FnExactJustifyLine.j1 kj13 a1 a2 t803 t806 t839 (t842 != t806) a0_0 a0_1 a0_2 a0_3 a0_4 a0_5 a0_6 a0_7 a0_8 a0_9 a0_10 a0_11 a0_12 a0_13 a0_14 a0_15 a0_16 a0_17 a0_18 a0_19 a0_20 a0_21 a0_22 a0_23 a0_24 a0_25 a0_26 a0_27 l0_28) else (laws_FnExactJustifyLine.j1 kj13 a1 a2 t803 t806 t839 true a0_0 a0_1 a0_2 a0_3 a0_4 a0_5 a0_6 a0_7 a0_8 a0_9 a0_10 a0_11 a0_12 a0_13 a0_14 a0_15 a0_16 a0_17 a0_18 a0_19 a0_20 a0_21 a0_22 a0_23 a0_24 a0_25 a0_26 a0_27 l0_28))))) else (some false)))) = some r := by rw [if_neg (show ¬ (false = true) by decide)] at H; exact H
            clear H
            have H := H1
            clear H1
            replace H := Option.bind_eq_some_iff.mp H
            obtain ⟨⟨t844, t845, t846, t847, t848, t849, t850, t851, t852, t853, t854, t855, t856, t857, t858, t859, t860, t861, t862, t863, t864, t865, t866, t867, t868, t869, t870, t871, t872⟩, A320, H⟩ := H
            replace H : ((laws_eqFace.f t807 t808 t809 t810 t811 t812 t813 t814 t815 t816 t817 t818 t819 t820 t821 t822 t823 t824 t825 t826 t827 t828 t829 t830 t831 t832 t833 t834 t835 t844 t845 t846 t847 t848 t849 t850 t851 t852 t853 t854 t855 t856 t857 t858 t859 t860 t861 t862 t863 t864 t865 t866 t867 t868 t869 t870 t871 t872).bind fun t875 => (if t875 = true then ((laws_markFace.f kj13 t807 t808 t809 t810 t811 t812 t813 t814 t815 t816 t817 t818 t819 t820 t821 t822 t823 t824 t825 t826 t827 t828 t829 t830 t831 t832 t833 t834 t835 1).bind fun bt876 => (if bt876.1 < 0 then (laws_FnExactJustifyLine.j1 kj13 a1 a2 t803 t806 t839 true a0_0 a0_1 a0_2 a0_3 a0_4 a0_5 a0_6 a0_7 a0_8 a0_9 a0_10 a0_11 a0_12 a0_13 a0_14 a0_15 a0_16 a0_17 a0_18 a0_19 a0_20 a0_21 a0_22 a0_23 a0_24 a0_25 a0_26 a0_27 l0_28) else ((laws_eqInt64S.f kj13 t839 t803).bind fun t878 => (if t878 = true then (laws_FnExactJustifyLine.j1 kj13 a1 a2 t803 t806 t839 (t842 != t806) a0_0 a0_1 a0_2 a0_3 a0_4 a0_5 a0_6 a0_7 a0_8 a0_9 a0_10 a0_11 a0_12 a0_13 a0_14 a0_15 a0_16 a0_17 a0_18 a0_19 a0_20 a0_21 a0_22 a0_23 a0_24 a0_25 a0_26 a0_27 l0_28) else (laws_FnExactJustifyLine.j1 kj13 a1 a2 t803 t806 t839 true a0_0 a0_1 a0_2 a0_3 a0_4 a0_5 a0_6 a0_7 a0_8 a0_9 a0_10 a0_11 a0_12 a0_13 a0_14 a0_15 a0_16 a0_17 a0_18 a0_19 a0_20 a0_21 a0_22 a0_23 a0_24 a0_25 a0_26 a0_27 l0_28))))) else (some false))) = some r := H
            have A32 := Aside0.mk A320
            clear A320
            replace H := Option.bind_eq_some_iff.mp H
            obtain ⟨t875, A330, H⟩ := H
            replace H : (if t875 = true then ((laws_markFace.f kj13 t807 t808 t809 t810 t811 t812 t813 t814 t815 t816 t817 t818 t819 t820 t821 t822 t823 t824 t825 t826 t827 t828 t829 t830 t831 t832 t833 t834 t835 1).bind fun bt876 => (if bt876.1 < 0 then (laws_FnExactJustifyLine.j1 kj13 a1 a2 t803 t806 t839 true a0_0 a0_1 a0_2 a0_3 a0_4 a0_5 a0_6 a0_7 a0_8 a0_9 a0_10 a0_11 a0_12 a0_13 a0_14 a0_15 a0_16 a0_17 a0_18 a0_19 a0_20 a0_21 a0_22 a0_23 a0_24 a0_25 a0_26 a0_27 l0_28) else ((laws_eqInt64S.f kj13 t839 t803).bind fun t878 => (if t878 = true then (laws_FnExactJustifyLine.j1 kj13 a1 a2 t803 t806 t839 (t842 != t806) a0_0 a0_1 a0_2 a0_3 a0_4 a0_5 a0_6 a0_7 a0_8 a0_9 a0_10 a0_11 a0_12 a0_13 a0_14 a0_15 a0_16 a0_17 a0_18 a0_19 a0_20 a0_21 a0_22 a0_23 a0_24 a0_25 a0_26 a0_27 l0_28) else (laws_FnExactJustifyLine.j1 kj13 a1 a2 t803 t806 t839 true a0_0 a0_1 a0_2 a0_3 a0_4 a0_5 a0_6 a0_7 a0_8 a0_9 a0_10 a0_11 a0_12 a0_13 a0_14 a0_15 a0_16 a0_17 a0_18 a0_19 a0_20 a0_21 a0_22 a0_23 a0_24 a0_25 a0_26 a0_27 l0_28))))) else (some false)) = some r := H
            have A33 := Aside0.mk A330
            clear A330
            by_cases c34 : t875 = true
            · subst c34
              have H1 : ((laws_markFace.f kj13 t807 t808 t809 t810 t811 t812 t813 t814 t815 t816 t817 t818 t819 t820 t821 t822 t823 t824 t825 t826 t827 t828 t829 t830 t831 t832 t833 t834 t835 1).bind fun bt876 => (if bt876.1 < 0 then (laws_FnExactJustifyLine.j1 kj13 a1 a2 t803 t806 t839 true a0_0 a0_1 a0_2 a0_3 a0_4 a0_5 a0_6 a0_7 a0_8 a0_9 a0_10 a0_11 a0_12 a0_13 a0_14 a0_15 a0_16 a0_17 a0_18 a0_19 a0_20 a0_21 a0_22 a0_23 a0_24 a0_25 a0_26 a0_27 l0_28) else ((laws_eqInt64S.f kj13 t839 t803).bind fun t878 => (if t878 = true then (laws_FnExactJustifyLine.j1 kj13 a1 a2 t803 t806 t839 (t842 != t806) a0_0 a0_1 a0_2 a0_3 a0_4 a0_5 a0_6 a0_7 a0_8 a0_9 a0_10 a0_11 a0_12 a0_13 a0_14 a0_15 a0_16 a0_17 a0_18 a0_19 a0_20 a0_21 a0_22 a0_23 a0_24 a0_25 a0_26 a0_27 l0_28) else (laws_FnExactJustifyLine.j1 kj13 a1 a2 t803 t806 t839 true a0_0 a0_1 a0_2 a0_3 a0_4 a0_5 a0_6 a0_7 a0_8 a0_9 a0_10 a0_11 a0_12 a0_13 a0_14 a0_15 a0_16 a0_17 a0_18 a0_19 a0_20 a0_21 a0_22 a0_23 a0_24 a0_25 a0_26 a0_27 l0_28))))) = some r := by rw [if_pos rfl] at H; exact H
              clear H
              have H := H1
              clear H1
              replace H := Option.bind_eq_some_iff.mp H
              obtain ⟨⟨t876, t877⟩, A350, H⟩ := H
              replace H : (if t876 < 0 then (laws_FnExactJustifyLine.j1 kj13 a1 a2 t803 t806 t839 true a0_0 a0_1 a0_2 a0_3 a0_4 a0_5 a0_6 a0_7 a0_8 a0_9 a0_10 a0_11 a0_12 a0_13 a0_14 a0_15 a0_16 a0_17 a0_18 a0_19 a0_20 a0_21 a0_22 a0_23 a0_24 a0_25 a0_26 a0_27 l0_28) else ((laws_eqInt64S.f kj13 t839 t803).bind fun t878 => (if t878 = true then (laws_FnExactJustifyLine.j1 kj13 a1 a2 t803 t806 t839 (t842 != t806) a0_0 a0_1 a0_2 a0_3 a0_4 a0_5 a0_6 a0_7 a0_8 a0_9 a0_10 a0_11 a0_12 a0_13 a0_14 a0_15 a0_16 a0_17 a0_18 a0_19 a0_20 a0_21 a0_22 a0_23 a0_24 a0_25 a0_26 a0_27 l0_28) else (laws_FnExactJustifyLine.j1 kj13 a1 a2 t803 t806 t839 true a0_0 a0_1 a0_2 a0_3 a0_4 a0_5 a0_6 a0_7 a0_8 a0_9 a0_10 a0_11 a0_12 a0_13 a0_14 a0_15 a0_16 a0_17 a0_18 a0_19 a0_20 a0_21 a0_22 a0_23 a0_24 a0_25 a0_26 a0_27 l0_28)))) = some r := H
              have A35 := Aside0.mk A350
              clear A350
              have HC36 := Aside0.mk H
              clear H
              try go_wp2
              have n0_ := Aside0.mk (Kd.R_drew HO_8.out)
              have n1_ := Aside0.mk (Kd.R_drew HO_11.out)
              have n2_ := Aside0.mk (Kd.R_drew HO_839028.out)
              have n3_ := Aside0.mk (blk_drew BK770.out)
              have n4_ := Aside0.mk (blk_drew BK838.out)
              have n5_ := Aside0.mk (below_drew1 HB.out)
              clear HO_8
              clear HO_11
              clear HO_839028
              clear BK770
              clear BK838
              clear HB
              have HO_8 := n0_
              have HO_11 := n1_
              have HO_839028 := n2_
              have BK770 := n3_
              have BK838 := n4_
              have HB := n5_
              clear n0_ n1_ n2_ n3_ n4_ n5_
              refine start_ (n := 5) (S := fun w' => w'.heap[gb838]? = some (.cells #[.int .i8 t807, .int .i8 t808, .int .i8 t809, .int .i8 t810, .int .i8 t811, .int .i8 t812, .int .i8 t813, .int .i8 t814, .int .i8 t815, .int .i8 t816, .int .i8 t817, .int .i8 t818, .int .i8 t819, .int .i8 t820, .int .i8 t821, .int .i8 t822, .int .i8 t823, .int .i8 t824, .int .i8 t825, .int .i8 t826, .int .i8 t827, .int .i8 t828, .int .i8 t829, .int .i8 t830, .int .i8 t831, .int .i8 t832, .int .i8 t833, .int .i8 t834, .slice Ao22 t835.length co22] 32 (0, 0)) ∧ w'.heap[gb770]? = some (.cells #[.int .i8 a0_0, .int .i8 a0_1, .int .i8 a0_2, .int .i8 a0_3, .int .i8 a0_4, .int .i8 a0_5, .int .i8 a0_6, .int .i8 a0_7, .int .i8 a0_8, .int .i8 a0_9, .int .i8 a0_10, .int .i8 a0_11, .int .i8 a0_12, .int .i8 a0_13, .int .i8 a0_14, .int .i8 a0_15, .int .i8 a0_16, .int .i8 a0_17, .int .i8 a0_18, .int .i8 a0_19, .int .i8 a0_20, .int .i8 a0_21, .int .i8 a0_22, .int .i8 a0_23, .int .i8 a0_24, .int .i8 a0_25, .int .i8 a0_26, .int .i8 a0_27, .slice A0_28 l0_28.length c0_28] 26 (0, 0))) (ds := []) #[false, false, false, false, false] (by kernel_rfl) rfl rfl ⟨BK838.out, BK770.out⟩ (fun hHeld => ?_)
              generalize wc.drew = w37 at HO_8 HO_11 HO_839028 BK770 BK838 HB hHeld ⊢
              refine take_ (i := 0) (N := some 52) (v := ?_) (a' := ?_) #[true, false, false, false, false] rfl rfl (by kernel_rfl) (fun _ _ _ h => h) (Or.inl ⟨by rfl, ?_⟩) hHeld ?_ ?_
              rotate_left
              · rintro w' ⟨s0, s1⟩
                refine exec_load_partx_ 32 (.tmp 10) _ 0 [] [.int .i8 t807, .int .i8 t808, .int .i8 t809, .int .i8 t810, .int .i8 t811, .int .i8 t812, .int .i8 t813, .int .i8 t814, .int .i8 t815, .int .i8 t816, .int .i8 t817, .int .i8 t818, .int .i8 t819, .int .i8 t820, .int .i8 t821, .int .i8 t822, .int .i8 t823, .int .i8 t824, .int .i8 t825, .int .i8 t826, .int .i8 t827, .int .i8 t828, .int .i8 t829, .int .i8 t830, .int .i8 t831, .int .i8 t832, .int .i8 t833, .int .i8 t834, .slice Ao22 t835.length co22] [] rfl s0 ?_ ?_ Tryd.underlying32 rfl (by exact (show (Tryd.prog.info? 32).map (·.size) = some 29 by kernel_rfl))
                · rfl
                · rfl
              rotate_left
              · simp only [Act.put, List.setIfInBounds_toArray, List.set_cons_zero, List.set_cons_succ, i64_w, i32_w, u8_w_]
                rfl
              refine take_ (i := 1) (N := some 53) (v := ?_) (a' := ?_) #[true, true, false, false, false] rfl rfl (by kernel_rfl) (fun _ _ _ h => h) (Or.inl ⟨by rfl, ?_⟩) hHeld ?_ ?_
              rotate_left
              · rintro w' ⟨s0, s1⟩
                refine exec_load_partx_ 26 (.tmp 3) _ 0 [] [.int .i8 a0_0, .int .i8 a0_1, .int .i8 a0_2, .int .i8 a0_3, .int .i8 a0_4, .int .i8 a0_5, .int .i8 a0_6, .int .i8 a0_7, .int .i8 a0_8, .int .i8 a0_9, .int .i8 a0_10, .int .i8 a0_11, .int .i8 a0_12, .int .i8 a0_13, .int .i8 a0_14, .int .i8 a0_15, .int .i8 a0_16, .int .i8 a0_17, .int .i8 a0_18, .int .i8 a0_19, .int .i8 a0_20, .int .i8 a0_21, .int .i8 a0_22, .int .i8 a0_23, .int .i8 a0_24, .int .i8 a0_25, .int .i8 a0_26, .int .i8 a0_27, .slice A0_28 l0_28.length c0_28] [] rfl s1 ?_ ?_ Tryd.underlying26 rfl (by exact (show (Tryd.prog.info? 26).map (·.size) = some 29 by kernel_rfl))
                · rfl
                · rfl
              rotate_left
              · simp only [Act.put, List.setIfInBounds_toArray, List.set_cons_zero, List.set_cons_succ, i64_w, i32_w, u8_w_]
                rfl
              refine one_ (i := 2) (N := some 54) #[true, true, true, false, false] rfl rfl (by kernel_rfl) (by decide) (fun K hK => ?_)
              refine goes_ Tryd.func20 (by kernel_rfl) rfl #[.agg #[.int .i8 a0_0, .int .i8 a0_1, .int .i8 a0_2, .int .i8 a0_3, .int .i8 a0_4, .int .i8 a0_5, .int .i8 a0_6, .int .i8 a0_7, .int .i8 a0_8, .int .i8 a0_9, .int .i8 a0_10, .int .i8 a0_11, .int .i8 a0_12, .int .i8 a0_13, .int .i8 a0_14, .int .i8 a0_15, .int .i8 a0_16, .int .i8 a0_17, .int .i8 a0_18, .int .i8 a0_19, .int .i8 a0_20, .int .i8 a0_21, .int .i8 a0_22, .int .i8 a0_23, .int .i8 a0_24, .int .i8 a0_25, .int .i8 a0_26, .int .i8 a0_27, .slice A0_28 l0_28.length c0_28]] (by rfl) rfl rfl (by (try simp only [List.map_toArray, List.map_cons, List.map_nil]); first | done | rfl | (simp only [List.length_drop, List.length_take]; rfl)) ?_
              with_reducible refine (laws_toFace.calls a0_0 a0_1 a0_2 a0_3 a0_4 a0_5 a0_6 a0_7 a0_8 a0_9 a0_10 a0_11 a0_12 a0_13 a0_14 a0_15 a0_16 a0_17 a0_18 a0_19 a0_20 a0_21 a0_22 a0_23 a0_24 a0_25 a0_26 a0_27 _ _ l0_28 t844 t845 t846 t847 t848 t849 t850 t851 t852 t853 t854 t855 t856 t857 t858 t859 t860 t861 t862 t863 t864 t865 t866 t867 t868 t869 t870 t871 t872 _ ?side1 ?side2 A32.out).mono ?_
              (case side1 => repeat (first | exact (Kd.C_below HR0_28.out HB.out) | (with_reducible refine Kd.C_alloc ?_ _) | (with_reducible refine Kd.C_drewN ?_ _) | (with_reducible refine Kd.C_drew ?_)))
              (case side2 => exact HC0_28.out)
              rintro e w38 ⟨v873, rfl, ho0, hb⟩
              refine ⟨_, rfl, ?_⟩
              have n0_ := Aside0.mk (Kd.R_below (by (with_reducible repeat (first | apply Kd.R_alloc | apply Kd.R_drewN | apply Kd.R_drew)); exact HO_8.out) hb)
              have n1_ := Aside0.mk (Kd.R_below (by (with_reducible repeat (first | apply Kd.R_alloc | apply Kd.R_drewN | apply Kd.R_drew)); exact HO_11.out) hb)
              have n2_ := Aside0.mk (Kd.R_elder' (by (with_reducible repeat (first | apply Kd.R_alloc | apply Kd.R_drewN | apply Kd.R_drew)); exact HO_839028.out) (Kd.R_base ho0) hb)
              have n3_ := Aside0.mk (Kd.R_lower (Kd.R_new' ho0 (Kd.R_lt (by (with_reducible repeat (first | apply Kd.R_alloc | apply Kd.R_drewN | apply Kd.R_drew)); exact HO_839028.out))) (below_size (by repeat (first | (with_reducible first | exact HB.out | apply below_alloc | apply pw_below_drewN | apply below_drew1 | refine below_set ?_ GE770.out | refine below_set ?_ GE838.out) | exact HB.out))))
              have n4_ := Aside0.mk (blk_below (g := gb770) (o := .cells #[.int .i8 a0_0, .int .i8 a0_1, .int .i8 a0_2, .int .i8 a0_3, .int .i8 a0_4, .int .i8 a0_5, .int .i8 a0_6, .int .i8 a0_7, .int .i8 a0_8, .int .i8 a0_9, .int .i8 a0_10, .int .i8 a0_11, .int .i8 a0_12, .int .i8 a0_13, .int .i8 a0_14, .int .i8 a0_15, .int .i8 a0_16, .int .i8 a0_17, .int .i8 a0_18, .int .i8 a0_19, .int .i8 a0_20, .int .i8 a0_21, .int .i8 a0_22, .int .i8 a0_23, .int .i8 a0_24, .int .i8 a0_25, .int .i8 a0_26, .int .i8 a0_27, .slice A0_28 l0_28.length c0_28] 26 (0, 0)) (by (with_reducible repeat (first | refine blk_drewN ?_ _ | refine blk_drew ?_ | refine blk_alloc ?_ _)); exact BK770.out) hb)
              have n5_ := Aside0.mk (blk_below (g := gb838) (o := .cells #[.int .i8 t807, .int .i8 t808, .int .i8 t809, .int .i8 t810, .int .i8 t811, .int .i8 t812, .int .i8 t813, .int .i8 t814, .int .i8 t815, .int .i8 t816, .int .i8 t817, .int .i8 t818, .int .i8 t819, .int .i8 t820, .int .i8 t821, .int .i8 t822, .int .i8 t823, .int .i8 t824, .int .i8 t825, .int .i8 t826, .int .i8 t827, .int .i8 t828, .int .i8 t829, .int .i8 t830, .int .i8 t831, .int .i8 t832, .int .i8 t833, .int .i8 t834, .slice Ao22 t835.length co22] 32 (0, 0)) (by (with_reducible repeat (first | refine blk_drewN ?_ _ | refine blk_drew ?_ | refine blk_alloc ?_ _)); exact BK838.out) hb)
              have n6_ := Aside0.mk (below_step (by repeat (first | (with_reducible first | exact HB.out | apply below_alloc | apply pw_below_drewN | apply below_drew1 | refine below_set ?_ GE770.out | refine below_set ?_ GE838.out) | exact HB.out)) hb)
              clear HO_8
              clear HO_11
              clear HO_839028
              clear BK770
              clear BK838
              clear HB
              have HO_8 := n0_
              have HO_11 := n1_
              have HO_839028 := n2_
              have HO874 := n3_
              have BK770 := n4_
              have BK838 := n5_
              have HB := n6_
              clear n0_ n1_ n2_ n3_ n4_ n5_ n6_
              (try clear hb)
              (try clear hb2)
              (try clear hk)
              (try clear hi)
              (try clear ho0)
              obtain ⟨Ao39, co39, eo39⟩ := Kd.R_slice HO874.out
              (first | subst eo39 | (injection eo39 with f1_ f2_ f3_; have f4_ := f1_.symm; have f5_ := f3_.symm; clear f1_ f2_ f3_; subst f4_; subst f5_))
              refine hK.out _ _ ⟨BK838.out, BK770.out⟩ (fun hHeld => ?_)
              clear hK K
              refine norm_ (a' := ?_) ?_ ?_
              rotate_left
              · show Act.put _ (some 54) _ = _
                simp only [Act.put, List.setIfInBounds_toArray, List.set_cons_zero, List.set_cons_succ, i64_w, i32_w, u8_w_]
                rfl
              refine one_ (i := 3) (N := some 55) #[true, true, true, true, false] rfl rfl (by kernel_rfl) (by decide) (fun K hK => ?_)
              refine goes_ Tryd.func22 (by kernel_rfl) rfl #[.agg #[.int .i8 t807, .int .i8 t808, .int .i8 t809, .int .i8 t810, .int .i8 t811, .int .i8 t812, .int .i8 t813, .int .i8 t814, .int .i8 t815, .int .i8 t816, .int .i8 t817, .int .i8 t818, .int .i8 t819, .int .i8 t820, .int .i8 t821, .int .i8 t822, .int .i8 t823, .int .i8 t824, .int .i8 t825, .int .i8 t826, .int .i8 t827, .int .i8 t828, .int .i8 t829, .int .i8 t830, .int .i8 t831, .int .i8 t832, .int .i8 t833, .int .i8 t834, .slice Ao22 t835.length co22], .agg #[.int .i8 t844, .int .i8 t845, .int .i8 t846, .int .i8 t847, .int .i8 t848, .int .i8 t849, .int .i8 t850, .int .i8 t851, .int .i8 t852, .int .i8 t853, .int .i8 t854, .int .i8 t855, .int .i8 t856, .int .i8 t857, .int .i8 t858, .int .i8 t859, .int .i8 t860, .int .i8 t861, .int .i8 t862, .int .i8 t863, .int .i8 t864, .int .i8 t865, .int .i8 t866, .int .i8 t867, .int .i8 t868, .int .i8 t869, .int .i8 t870, .int .i8 t871, .slice Ao39 t872.length co39]] (by rfl) rfl rfl (by (try simp only [List.map_toArray, List.map_cons, List.map_nil]); first | done | rfl | (simp only [List.length_drop, List.length_take]; rfl)) ?_
              with_reducible refine (laws_eqFace.calls t807 t808 t809 t810 t811 t812 t813 t814 t815 t816 t817 t818 t819 t820 t821 t822 t823 t824 t825 t826 t827 t828 t829 t830 t831 t832 t833 t834 _ _ t835 t844 t845 t846 t847 t848 t849 t850 t851 t852 t853 t854 t855 t856 t857 t858 t859 t860 t861 t862 t863 t864 t865 t866 t867 t868 t869 t870 t871 _ _ t872 true _ ?side1 ?side2 ?side3 ?side4 A33.out).mono ?_
              (case side1 => repeat (first | exact (Kd.R_reads' HO_839028.out).2.2 | (with_reducible refine Kd.C_alloc ?_ _) | (with_reducible refine Kd.C_drewN ?_ _) | (with_reducible refine Kd.C_drew ?_)))
              (case side2 => exact (Kd.R_reads' HO_839028.out).2.1)
              (case side3 => repeat (first | exact (Kd.R_reads' HO874.out).2.2 | (with_reducible refine Kd.C_alloc ?_ _) | (with_reducible refine Kd.C_drewN ?_ _) | (with_reducible refine Kd.C_drew ?_)))
              (case side4 => exact (Kd.R_reads' HO874.out).2.1)
              rintro e w40 ⟨rfl, hb⟩
              refine ⟨_, rfl, ?_⟩
              have n0_ := Aside0.mk (Kd.R_below (by (with_reducible repeat (first | apply Kd.R_alloc | apply Kd.R_drewN | apply Kd.R_drew)); exact HO_8.out) hb)
              have n1_ := Aside0.mk (Kd.R_below (by (with_reducible repeat (first | apply Kd.R_alloc | apply Kd.R_drewN | apply Kd.R_drew)); exact HO_11.out) hb)
              have n2_ := Aside0.mk (Kd.R_below (by (with_reducible repeat (first | apply Kd.R_alloc | apply Kd.R_drewN | apply Kd.R_drew)); exact HO_839028.out) hb)
              have n3_ := Aside0.mk (Kd.R_below (by (with_reducible repeat (first | apply Kd.R_alloc | apply Kd.R_drewN | apply Kd.R_drew)); exact HO874.out) hb)
              have n4_ := Aside0.mk (blk_below (g := gb770) (o := .cells #[.int .i8 a0_0, .int .i8 a0_1, .int .i8 a0_2, .int .i8 a0_3, .int .i8 a0_4, .int .i8 a0_5, .int .i8 a0_6, .int .i8 a0_7, .int .i8 a0_8, .int .i8 a0_9, .int .i8 a0_10, .int .i8 a0_11, .int .i8 a0_12, .int .i8 a0_13, .int .i8 a0_14, .int .i8 a0_15, .int .i8 a0_16, .int .i8 a0_17, .int .i8 a0_18, .int .i8 a0_19, .int .i8 a0_20, .int .i8 a0_21, .int .i8 a0_22, .int .i8 a0_23, .int .i8 a0_24, .int .i8 a0_25, .int .i8 a0_26, .int .i8 a0_27, .slice A0_28 l0_28.length c0_28] 26 (0, 0)) (by (with_reducible repeat (first | refine blk_drewN ?_ _ | refine blk_drew ?_ | refine blk_alloc ?_ _)); exact BK770.out) hb)
              have n5_ := Aside0.mk (blk_below (g := gb838) (o := .cells #[.int .i8 t807, .int .i8 t808, .int .i8 t809, .int .i8 t810, .int .i8 t811, .int .i8 t812, .int .i8 t813, .int .i8 t814, .int .i8 t815, .int .i8 t816, .int .i8 t817, .int .i8 t818, .int .i8 t819, .int .i8 t820, .int .i8 t821, .int .i8 t822, .int .i8 t823, .int .i8 t824, .int .i8 t825, .int .i8 t826, .int .i8 t827, .int .i8 t828, .int .i8 t829, .int .i8 t830, .int .i8 t831, .int .i8 t832, .int .i8 t833, .int .i8 t834, .slice Ao22 t835.length co22] 32 (0, 0)) (by (with_reducible repeat (first | refine blk_drewN ?_ _ | refine blk_drew ?_ | refine blk_alloc ?_ _)); exact BK838.out) hb)
              have n6_ := Aside0.mk (below_step (by repeat (first | (with_reducible first | exact HB.out | apply below_alloc | apply pw_below_drewN | apply below_drew1 | refine below_set ?_ GE770.out | refine below_set ?_ GE838.out) | exact HB.out)) hb)
              clear HO_8
              clear HO_11
              clear HO_839028
              clear HO874
              clear BK770
              clear BK838
              clear HB
              have HO_8 := n0_
              have HO_11 := n1_
              have HO_839028 := n2_
              have HO874 := n3_
              have BK770 := n4_
              have BK838 := n5_
              have HB := n6_
              clear n0_ n1_ n2_ n3_ n4_ n5_ n6_
              (try clear hb)
              (try clear hb2)
              (try clear hk)
              (try clear hi)
              refine hK.out _ _ ⟨BK838.out, BK770.out⟩ (fun hHeld => ?_)
              clear hK K
              refine norm_ (a' := ?_) ?_ ?_
              rotate_left
              · show Act.put _ (some 55) _ = _
                simp only [Act.put, List.setIfInBounds_toArray, List.set_cons_zero, List.set_cons_succ, i64_w, i32_w, u8_w_]
                rfl
              refine pure_ (i := 4) (N := some 56) (v := ?_) (a' := ?_) #[true, true, true, true, true] rfl rfl (by kernel_rfl) (fun _ _ _ h => h) (Or.inl ⟨by rfl, ?_⟩) ?_ ?_
              rotate_left
              · intro w'
                go_simp
                with_reducible rfl
              rotate_left
              · simp only [Act.put, List.setIfInBounds_toArray, List.set_cons_zero, List.set_cons_succ, i64_w, i32_w, u8_w_]
                rfl
              refine done_ (by kernel_rfl) ?_
              go_upto_region 16 with (first | ((with_reducible refine gate_dst (N := 57) rfl ?_); refine wpList_load_mid rfl 32 (.tmp 10) rfl gb838 0 rfl [.int .i8 t807, .int .i8 t808, .int .i8 t809, .int .i8 t810, .int .i8 t811, .int .i8 t812, .int .i8 t813, .int .i8 t814, .int .i8 t815, .int .i8 t816, .int .i8 t817, .int .i8 t818, .int .i8 t819, .int .i8 t820, .int .i8 t821, .int .i8 t822, .int .i8 t823, .int .i8 t824, .int .i8 t825, .int .i8 t826, .int .i8 t827, .int .i8 t828, .int .i8 t829, .int .i8 t830, .int .i8 t831, .int .i8 t832, .int .i8 t833, .int .i8 t834, .slice Ao22 t835.length co22] _ (range_partx_ [] [.int .i8 t807, .int .i8 t808, .int .i8 t809, .int .i8 t810, .int .i8 t811, .int .i8 t812, .int .i8 t813, .int .i8 t814, .int .i8 t815, .int .i8 t816, .int .i8 t817, .int .i8 t818, .int .i8 t819, .int .i8 t820, .int .i8 t821, .int .i8 t822, .int .i8 t823, .int .i8 t824, .int .i8 t825, .int .i8 t826, .int .i8 t827, .int .i8 t828, .int .i8 t829, .int .i8 t830, .int .i8 t831, .int .i8 t832, .int .i8 t833, .int .i8 t834, .slice Ao22 t835.length co22] [] 0 rfl (by (with_reducible repeat (first | refine blk_drewN ?_ _ | refine blk_drew ?_ | refine blk_alloc ?_ _)); exact BK838.out)) Tryd.underlying32 rfl (by exact (show (Tryd.prog.info? 32).map (·.size) = some 29 by kernel_rfl)) ?_) | ((with_reducible refine gate_callee (f := 30) rfl ?_); refine goesL_ (some 59) rfl rfl Tryd.func30 (by kernel_rfl) rfl #[.agg #[.int .i8 t807, .int .i8 t808, .int .i8 t809, .int .i8 t810, .int .i8 t811, .int .i8 t812, .int .i8 t813, .int .i8 t814, .int .i8 t815, .int .i8 t816, .int .i8 t817, .int .i8 t818, .int .i8 t819, .int .i8 t820, .int .i8 t821, .int .i8 t822, .int .i8 t823, .int .i8 t824, .int .i8 t825, .int .i8 t826, .int .i8 t827, .int .i8 t828, .int .i8 t829, .int .i8 t830, .int .i8 t831, .int .i8 t832, .int .i8 t833, .int .i8 t834, .slice Ao22 t835.length co22], .int .i64 1] rfl (by (try simp only [List.map_toArray, List.map_cons, List.map_nil]); first | done | rfl | (simp only [List.length_drop, List.length_take]; rfl)) ?_; (with_reducible refine (laws_markFace.calls kj13 t807 t808 t809 t810 t811 t812 t813 t814 t815 t816 t817 t818 t819 t820 t821 t822 t823 t824 t825 t826 t827 t828 t829 t830 t831 t832 t833 t834 (fun k_ => some k_ = (.slice Ao22 t835.length co22 : Value).ownBlock) (.slice Ao22 t835.length co22) t835 1 t876 t877 w _ ?side1 ?side2 A35.out).mono ?_); (case side1 => repeat (first | (with_reducible first | exact HB.out | apply below_alloc | apply pw_below_drewN | apply below_drew1 | refine below_set ?_ GE770.out | refine below_set ?_ GE838.out) | exact HB.out)); (case side2 => exact Kd.R_tight rfl HO_839028.out); rintro e w41 ⟨rfl, hy0, hb, hkp⟩; refine ⟨_, rfl, ?_⟩; have n0_ := Aside0.mk (Kd.R_mono (ok' := fun k_ => some k_ ≠ (v840 : Value).ownBlock) (Kd.R_keptB ((Kd.R_apart' HO_8.out (Kd.R_typed HO_839028.out) (by decide))) hkp (fun k_ hk_ hs_ => (hk_.2) hs_)) (fun k_ hk_ => hk_.1.1)); have n1_ := Aside0.mk (Kd.R_mono (ok' := fun k_ => some k_ ≠ (v804 : Value).ownBlock) (Kd.R_keptB ((Kd.R_apart' HO_11.out (Kd.R_typed HO_839028.out) (by decide))) hkp (fun k_ hk_ hs_ => (hk_.2) hs_)) (fun k_ hk_ => hk_.1.1)); have n2_ := Aside0.mk (Kd.R_reok rfl hy0 (fun k_ e_ => HO_839028.out.1 k_ e_)); have n3_ := Aside0.mk (blk_kept (by (with_reducible repeat (first | refine blk_drewN ?_ _ | refine blk_drew ?_ | refine blk_alloc ?_ _)); exact BK770.out) hkp (fun hs_ => (fun e_ => (Kd.R_ne HO_839028.out BK770.out (by decide)) e_) hs_)); have n4_ := Aside0.mk (blk_kept (by (with_reducible repeat (first | refine blk_drewN ?_ _ | refine blk_drew ?_ | refine blk_alloc ?_ _)); exact BK838.out) hkp (fun hs_ => (fun e_ => (Kd.R_ne HO_839028.out BK838.out (by decide)) e_) hs_)); have n5_ := Aside0.mk (Kd.R_mono (ok' := fun k_ => some k_ ≠ (.slice Ao22 t835.length co22 : Value).ownBlock) (Kd.R_keptB (HO874.out) hkp (fun k_ hk_ hs_ => (hk_.2) hs_)) (fun k_ hk_ => hk_.1.2)); have n6_ := Aside0.mk (hb); clear HO_8; clear HO_11; clear HO_839028; clear BK770; clear BK838; clear HO874; clear HB; have HO_8 := n0_; have HO_11 := n1_; have HO_839028 := n2_; have BK770 := n3_; have BK838 := n4_; have HO874 := n5_; have HB := n6_; clear n0_ n1_ n2_ n3_ n4_ n5_ n6_; (try clear hb); (try clear hkp); (try clear hy0)))
              (try simp only [Act.put, List.setIfInBounds_toArray, List.set_cons_zero, List.set_cons_succ])
              go_cut [72] (fun v72 wc => ∃ (kq : Nat) (x72_35 : Bool), v72 = .bool x72_35 ∧ Aside0 (laws_FnExactJustifyLine.j1 kq a1 a2 t803 t806 t839 x72_35 a0_0 a0_1 a0_2 a0_3 a0_4 a0_5 a0_6 a0_7 a0_8 a0_9 a0_10 a0_11 a0_12 a0_13 a0_14 a0_15 a0_16 a0_17 a0_18 a0_19 a0_20 a0_21 a0_22 a0_23 a0_24 a0_25 a0_26 a0_27 l0_28 = some r) ∧ Aside0 (kq ≤ kj13) ∧ Aside0 (Kd.R (Kd.int .i64) 2 wc w.heap.size (fun k_ => some k_ ≠ (v840 : Value).ownBlock) v804 t803) ∧ Aside0 (Kd.R (Kd.int .i64) 2 wc w.heap.size (fun k_ => some k_ ≠ (v804 : Value).ownBlock) v840 t839) ∧ Aside0 (Kd.R k137 137 wc w.heap.size (fun _ => True) (.slice Ao22 t835.length co22) t877) ∧ Aside0 (wc.heap[gb770]? = some (.cells #[.int .i8 a0_0, .int .i8 a0_1, .int .i8 a0_2, .int .i8 a0_3, .int .i8 a0_4, .int .i8 a0_5, .int .i8 a0_6, .int .i8 a0_7, .int .i8 a0_8, .int .i8 a0_9, .int .i8 a0_10, .int .i8 a0_11, .int .i8 a0_12, .int .i8 a0_13, .int .i8 a0_14, .int .i8 a0_15, .int .i8 a0_16, .int .i8 a0_17, .int .i8 a0_18, .int .i8 a0_19, .int .i8 a0_20, .int .i8 a0_21, .int .i8 a0_22, .int .i8 a0_23, .int .i8 a0_24, .int .i8 a0_25, .int .i8 a0_26, .int .i8 a0_27, (.slice A0_28 l0_28.length c0_28)] 26 (0, 0))) ∧ Aside0 (wc.heap[gb838]? = some (.cells #[.int .i8 t807, .int .i8 t808, .int .i8 t809, .int .i8 t810, .int .i8 t811, .int .i8 t812, .int .i8 t813, .int .i8 t814, .int .i8 t815, .int .i8 t816, .int .i8 t817, .int .i8 t818, .int .i8 t819, .int .i8 t820, .int .i8 t821, .int .i8 t822, .int .i8 t823, .int .i8 t824, .int .i8 t825, .int .i8 t826, .int .i8 t827, .int .i8 t828, .int .i8 t829, .int .i8 t830, .int .i8 t831, .int .i8 t832, .int .i8 t833, .int .i8 t834, (.slice Ao22 t835.length co22)] 32 (0, 0))) ∧ Aside0 (Below w.heap.size w wc))
              case first =>
                have H := HC36.out
                clear HC36
                by_cases c42 : t876 < 0
                · rw [if_pos c42] at H
                  have c42b0 : decide (t876 < 0) = true := decide_eq_true c42
                  clear c42
                  (first | rw [c42b0] | (simp only [i64_w, i32_w]; rw [c42b0]) | skip)
                  have H' := Aside0.mk H
                  clear H
                  go_wp2
                  go_meet
                  case rel => exact ⟨_, (true), (by first | rfl | (simp; done) | (simp [*]; done)), H', ⟨by have := HJ13.out; first | omega | exact Nat.le_refl _⟩, ⟨by (with_reducible repeat (first | apply Kd.R_alloc | apply Kd.R_drewN | apply Kd.R_drew)); exact HO_8.out⟩, ⟨by (with_reducible repeat (first | apply Kd.R_alloc | apply Kd.R_drewN | apply Kd.R_drew)); exact HO_11.out⟩, ⟨by (with_reducible repeat (first | apply Kd.R_alloc | apply Kd.R_drewN | apply Kd.R_drew)); exact Kd.R_mono HO_839028.out (fun _ hk => trivial)⟩, ⟨by (with_reducible repeat (first | refine blk_drewN ?_ _ | refine blk_drew ?_ | refine blk_alloc ?_ _)); exact BK770.out⟩, ⟨by (with_reducible repeat (first | refine blk_drewN ?_ _ | refine blk_drew ?_ | refine blk_alloc ?_ _)); exact BK838.out⟩, ⟨by repeat (first | (with_reducible first | exact HB.out | apply below_alloc | apply pw_below_drewN | apply below_drew1 | refine below_set ?_ GE770.out | refine below_set ?_ GE838.out) | exact HB.out)⟩⟩
                · rw [if_neg c42] at H
                  have c42b0 : decide (t876 < 0) = false := decide_eq_false c42
                  clear c42
                  (first | rw [c42b0] | (simp only [i64_w, i32_w]; rw [c42b0]) | skip)
                  replace H := Option.bind_eq_some_iff.mp H
                  obtain ⟨t878, A430, H⟩ := H
                  replace H : (if t878 = true then (laws_FnExactJustifyLine.j1 kj13 a1 a2 t803 t806 t839 (t842 != t806) a0_0 a0_1 a0_2 a0_3 a0_4 a0_5 a0_6 a0_7 a0_8 a0_9 a0_10 a0_11 a0_12 a0_13 a0_14 a0_15 a0_16 a0_17 a0_18 a0_19 a0_20 a0_21 a0_22 a0_23 a0_24 a0_25 a0_26 a0_27 l0_28) else (laws_FnExactJustifyLine.j1 kj13 a1 a2 t803 t806 t839 true a0_0 a0_1 a0_2 a0_3 a0_4 a0_5 a0_6 a0_7 a0_8 a0_9 a0_10 a0_11 a0_12 a0_13 a0_14 a0_15 a0_16 a0_17 a0_18 a0_19 a0_20 a0_21 a0_22 a0_23 a0_24 a0_25 a0_26 a0_27 l0_28)) = some r := H
                  have A43 := Aside0.mk A430
                  clear A430
                  by_cases c44 : t878 = true
                  · subst c44
                    have H1 : (laws_FnExactJustifyLine.j1 kj13 a1 a2 t803 t806 t839 (t842 != t806) a0_0 a0_1 a0_2 a0_3 a0_4 a0_5 a0_6 a0_7 a0_8 a0_9 a0_10 a0_11 a0_12 a0_13 a0_14 a0_15 a0_16 a0_17 a0_18 a0_19 a0_20 a0_21 a0_22 a0_23 a0_24 a0_25 a0_26 a0_27 l0_28) = some r := by rw [if_pos rfl] at H; exact H
                    clear H
                    have H := H1
                    clear H1
                    have H' := Aside0.mk H
                    clear H
                    obtain ⟨Ao45, co45, eo45⟩ := Kd.R_slice HO_11.out
                    subst eo45
                    obtain ⟨Ao46, co46, eo46⟩ := Kd.R_slice HO_8.out
                    subst eo46
                    go_wp2_with (first | (go_at_call 29; (with_reducible refine (laws_eqInt64S.calls kj13 _ _ t839 _ _ t803 true _ ?side1 ?side2 ?side3 ?side4 A43.out).mono ?_); (case side1 => repeat (first | exact (Kd.R_reads' HO_11.out).2.2 | (with_reducible refine Kd.C_alloc ?_ _) | (with_reducible refine Kd.C_drewN ?_ _) | (with_reducible refine Kd.C_drew ?_))); (case side2 => exact (Kd.R_reads' HO_11.out).2.1); (case side3 => repeat (first | exact (Kd.R_reads' HO_8.out).2.2 | (with_reducible refine Kd.C_alloc ?_ _) | (with_reducible refine Kd.C_drewN ?_ _) | (with_reducible refine Kd.C_drew ?_))); (case side4 => exact (Kd.R_reads' HO_8.out).2.1); rintro e w' ⟨rfl, ⟨nd, rfl⟩⟩))
                    go_meet
                    case rel => exact ⟨_, ((t842 != t806)), (by first | rfl | (simp; done) | (simp [*]; done)), H', ⟨by have := HJ13.out; first | omega | exact Nat.le_refl _⟩, ⟨by (with_reducible repeat (first | apply Kd.R_alloc | apply Kd.R_drewN | apply Kd.R_drew)); exact HO_8.out⟩, ⟨by (with_reducible repeat (first | apply Kd.R_alloc | apply Kd.R_drewN | apply Kd.R_drew)); exact HO_11.out⟩, ⟨by (with_reducible repeat (first | apply Kd.R_alloc | apply Kd.R_drewN | apply Kd.R_drew)); exact Kd.R_mono HO_839028.out (fun _ hk => trivial)⟩, ⟨by (with_reducible repeat (first | refine blk_drewN ?_ _ | refine blk_drew ?_ | refine blk_alloc ?_ _)); exact BK770.out⟩, ⟨by (with_reducible repeat (first | refine blk_drewN ?_ _ | refine blk_drew ?_ | refine blk_alloc ?_ _)); exact BK838.out⟩, ⟨by repeat (first | (with_reducible first | exact HB.out | apply below_alloc | apply pw_below_drewN | apply below_drew1 | refine below_set ?_ GE770.out | refine below_set ?_ GE838.out) | exact HB.out)⟩⟩
                  · replace c44 := Bool.eq_false_iff.mpr c44
                    subst c44
                    have H1 : (laws_FnExactJustifyLine.j1 kj13 a1 a2 t803 t806 t839 true a0_0 a0_1 a0_2 a0_3 a0_4 a0_5 a0_6 a0_7 a0_8 a0_9 a0_10 a0_11 a0_12 a0_13 a0_14 a0_15 a0_16 a0_17 a0_18 a0_19 a0_20 a0_21 a0_22 a0_23 a0_24 a0_25 a0_26 a0_27 l0_28) = some r := by rw [if_neg (show ¬ (false = true) by decide)] at H; exact H
                    clear H
                    have H := H1
                    clear H1
                    have H' := Aside0.mk H
                    clear H
                    obtain ⟨Ao47, co47, eo47⟩ := Kd.R_slice HO_11.out
                    subst eo47
                    obtain ⟨Ao48, co48, eo48⟩ := Kd.R_slice HO_8.out
                    subst eo48
                    go_wp2_with (first | (go_at_call 29; (with_reducible refine (laws_eqInt64S.calls kj13 _ _ t839 _ _ t803 false _ ?side1 ?side2 ?side3 ?side4 A43.out).mono ?_); (case side1 => repeat (first | exact (Kd.R_reads' HO_11.out).2.2 | (with_reducible refine Kd.C_alloc ?_ _) | (with_reducible refine Kd.C_drewN ?_ _) | (with_reducible refine Kd.C_drew ?_))); (case side2 => exact (Kd.R_reads' HO_11.out).2.1); (case side3 => repeat (first | exact (Kd.R_reads' HO_8.out).2.2 | (with_reducible refine Kd.C_alloc ?_ _) | (with_reducible refine Kd.C_drewN ?_ _) | (with_reducible refine Kd.C_drew ?_))); (case side4 => exact (Kd.R_reads' HO_8.out).2.1); rintro e w' ⟨rfl, ⟨nd, rfl⟩⟩))
                    go_meet
                    case rel => exact ⟨_, (true), (by first | rfl | (simp; done) | (simp [*]; done)), H', ⟨by have := HJ13.out; first | omega | exact Nat.le_refl _⟩, ⟨by (with_reducible repeat (first | apply Kd.R_alloc | apply Kd.R_drewN | apply Kd.R_drew)); exact HO_8.out⟩, ⟨by (with_reducible repeat (first | apply Kd.R_alloc | apply Kd.R_drewN | apply Kd.R_drew)); exact HO_11.out⟩, ⟨by (with_reducible repeat (first | apply Kd.R_alloc | apply Kd.R_drewN | apply Kd.R_drew)); exact Kd.R_mono HO_839028.out (fun _ hk => trivial)⟩, ⟨by (with_reducible repeat (first | refine blk_drewN ?_ _ | refine blk_drew ?_ | refine blk_alloc ?_ _)); exact BK770.out⟩, ⟨by (with_reducible repeat (first | refine blk_drewN ?_ _ | refine blk_drew ?_ | refine blk_alloc ?_ _)); exact BK838.out⟩, ⟨by repeat (first | (with_reducible first | exact HB.out | apply below_alloc | apply pw_below_drewN | apply below_drew1 | refine below_set ?_ GE770.out | refine below_set ?_ GE838.out) | exact HB.out)⟩⟩
              case rest =>
                clear HC36
                try clear c1
                try clear c2
                try clear p2
                try clear c3
                try clear c4
                try clear c4b0
                try clear c4b1
                try clear c7
                try clear c7b0
                try clear c18
                try clear c20
                try clear c22
                try clear c26
                try clear c29
                try clear c30
                try clear c31
                try clear c33
                try clear c34
                try clear c42
                try clear c42b0
                try clear c44
                try clear p2
                obtain ⟨kq, x72_35, rfl, HA, HJ35, HO_8, HO_11, HO_839028, BK770, BK838, HB⟩ := hcut
                have hl839028_35 := (Kd.R_reads' HO_839028.out).1
                rw [hl839028_35] at HO_839028
                (try simp only [hl839028_35])
                (try simp only [hl839028_35] at BK770)
                (try simp only [hl839028_35] at BK838)
                (try simp only [hl839028_35] at HO_8)
                (try simp only [hl839028_35] at HO_11)
                cases kq with
                | zero => exact absurd HA.out (by simp [laws_FnExactJustifyLine.j1])
                | succ kj35 =>
                  have H := HA.out
                  clear HA
                  simp only [laws_FnExactJustifyLine.j1] at H
                  by_cases c49 : x72_35 = true
                  · subst c49
                    have H1 : (some false) = some r := by rw [if_pos rfl] at H; exact H
                    clear H
                    have H := H1
                    clear H1
                    obtain rfl := Option.some.inj H
                    go_wp2
                    go_ret
                    exact ⟨by first | rfl | (simp [errW_none, errW_some] <;> rfl) | (simp [*, errW_none, errW_some] <;> rfl), by repeat (first | (with_reducible first | exact HB.out | apply below_alloc | apply pw_below_drewN | apply below_drew1 | refine below_set ?_ GE770.out | refine below_set ?_ GE838.out) | exact HB.out)⟩
                  · replace c49 := Bool.eq_false_iff.mpr c49
                    subst c49
                    have H1 : ((laws_markInt64S.f kj35 t839 1).bind fun bt879 => ((laws_heldInt64S.f kj35 bt879.2 1).bind fun t881 => (if t881 < 0 then (some false) else (if t881 = bt879.1 then ((laws_toFace.f a0_0 a0_1 a0_2 a0_3 a0_4 a0_5 a0_6 a0_7 a0_8 a0_9 a0_10 a0_11 a0_12 a0_13 a0_14 a0_15 a0_16 a0_17 a0_18 a0_19 a0_20 a0_21 a0_22 a0_23 a0_24 a0_25 a0_26 a0_27 l0_28).bind fun bt882 => ((impl_JustifyLine.f kj35 bt882.1 bt882.2.1 bt882.2.2.1 bt882.2.2.2.1 bt882.2.2.2.2.1 bt882.2.2.2.2.2.1 bt882.2.2.2.2.2.2.1 bt882.2.2.2.2.2.2.2.1 bt882.2.2.2.2.2.2.2.2.1 bt882.2.2.2.2.2.2.2.2.2.1 bt882.2.2.2.2.2.2.2.2.2.2.1 bt882.2.2.2.2.2.2.2.2.2.2.2.1 bt882.2.2.2.2.2.2.2.2.2.2.2.2.1 bt882.2.2.2.2.2.2.2.2.2.2.2.2.2.1 bt882.2.2.2.2.2.2.2.2.2.2.2.2.2.2.1 bt882.2.2.2.2.2.2.2.2.2.2.2.2.2.2.2.1 bt882.2.2.2.2.2.2.2.2.2.2.2.2.2.2.2.2.1 bt882.2.2.2.2.2.2.2.2.2.2.2.2.2.2.2.2.2.1 bt882.2.2.2.2.2.2.2.2.2.2.2.2.2.2.2.2.2.2.1 bt882.2.2.2.2.2.2.2.2.2.2.2.2.2.2.2.2.2.2.2.1 bt882.2.2.2.2.2.2.2.2.2.2.2.2.2.2.2.2.2.2.2.2.1 bt882.2.2.2.2.2.2.2.2.2.2.2.2.2.2.2.2.2.2.2.2.2.1 bt882.2.2.2.2.2.2.2.2.2.2.2.2.2.2.2.2.2.2.2.2.2.2.1 bt882.2.2.2.2.2.2.2.2.2.2.2.2.2.2.2.2.2.2.2.2.2.2.2.1 bt882.2.2.2.2.2.2.2.2.2.2.2.2.2.2.2.2.2.2.2.2.2.2.2.2.1 bt882.2.2.2.2.2.2.2.2.2.2.2.2.2.2.2.2.2.2.2.2.2.2.2.2.2.1 bt882.2.2.2.2.2.2.2.2.2.2.2.2.2.2.2.2.2.2.2.2.2.2.2.2.2.2.1 bt882.2.2.2.2.2.2.2.2.2.2.2.2.2.2.2.2.2.2.2.2.2.2.2.2.2.2.2.1 bt882.2.2.2.2.2.2.2.2.2.2.2.2.2.2.2.2.2.2.2.2.2.2.2.2.2.2.2.2 a1 a2).bind fun bt913 => ((laws_eqInt64S.f kj35 bt913.1 t803).bind fun t917 => (if t917 = true then (laws_FnExactJustifyLine.j2 kj35 bt879.2 bt879.1 (bt913.2 != t806)) else (laws_FnExactJustifyLine.j2 kj35 bt879.2 bt879.1 true))))) else (some false))))) = some r := by rw [if_neg (show ¬ (false = true) by decide)] at H; exact H
                    clear H
                    have H := H1
                    clear H1
                    replace H := Option.bind_eq_some_iff.mp H
                    obtain ⟨⟨t879, t880⟩, A500, H⟩ := H
                    replace H : ((laws_heldInt64S.f kj35 t880 1).bind fun t881 => (if t881 < 0 then (some false) else (if t881 = t879 then ((laws_toFace.f a0_0 a0_1 a0_2 a0_3 a0_4 a0_5 a0_6 a0_7 a0_8 a0_9 a0_10 a0_11 a0_12 a0_13 a0_14 a0_15 a0_16 a0_17 a0_18 a0_19 a0_20 a0_21 a0_22 a0_23 a0_24 a0_25 a0_26 a0_27 l0_28).bind fun bt882 => ((impl_JustifyLine.f kj35 bt882.1 bt882.2.1 bt882.2.2.1 bt882.2.2.2.1 bt882.2.2.2.2.1 bt882.2.2.2.2.2.1 bt882.2.2.2.2.2.2.1 bt882.2.2.2.2.2.2.2.1 bt882.2.2.2.2.2.2.2.2.1 bt882.2.2.2.2.2.2.2.2.2.1 bt882.2.2.2.2.2.2.2.2.2.2.1 bt882.2.2.2.2.2.2.2.2.2.2.2.1 bt882.2.2.2.2.2.2.2.2.2.2.2.2.1 bt882.2.2.2.2.2.2.2.2.2.2.2.2.2.1 bt882.2.2.2.2.2.2.2.2.2.2.2.2.2.2.1 bt882.2.2.2.2.2.2.2.2.2.2.2.2.2.2.2.1 bt882.2.2.2.2.2.2.2.2.2.2.2.2.2.2.2.2.1 bt882.2.2.2.2.2.2.2.2.2.2.2.2.2.2.2.2.2.1 bt882.2.2.2.2.2.2.2.2.2.2.2.2.2.2.2.2.2.2.1 bt882.2.2.2.2.2.2.2.2.2.2.2.2.2.2.2.2.2.2.2.1 bt882.2.2.2.2.2.2.2.2.2.2.2.2.2.2.2.2.2.2.2.2.1 bt882.2.2.2.2.2.2.2.2.2.2.2.2.2.2.2.2.2.2.2.2.2.1 bt882.2.2.2.2.2.2.2.2.2.2.2.2.2.2.2.2.2.2.2.2.2.2.1 bt882.2.2.2.2.2.2.2.2.2.2.2.2.2.2.2.2.2.2.2.2.2.2.2.1 bt882.2.2.2.2.2.2.2.2.2.2.2.2.2.2.2.2.2.2.2.2.2.2.2.2.1 bt882.2.2.2.2.2.2.2.2.2.2.2.2.2.2.2.2.2.2.2.2.2.2.2.2.2.1 bt882.2.2.2.2.2.2.2.2.2.2.2.2.2.2.2.2.2.2.2.2.2.2.2.2.2.2.1 bt882.2.2.2.2.2.2.2.2.2.2.2.2.2.2.2.2.2.2.2.2.2.2.2.2.2.2.2.1 bt882.2.2.2.2.2.2.2.2.2.2.2.2.2.2.2.2.2.2.2.2.2.2.2.2.2.2.2.2 a1 a2).bind fun bt913 => ((laws_eqInt64S.f kj35 bt913.1 t803).bind fun t917 => (if t917 = true then (laws_FnExactJustifyLine.j2 kj35 t880 t879 (bt913.2 != t806)) else (laws_FnExactJustifyLine.j2 kj35 t880 t879 true))))) else (some false)))) = some r := H
                    have A50 := Aside0.mk A500
                    clear A500
                    replace H := Option.bind_eq_some_iff.mp H
                    obtain ⟨t881, A510, H⟩ := H
                    replace H : (if t881 < 0 then (some false) else (if t881 = t879 then ((laws_toFace.f a0_0 a0_1 a0_2 a0_3 a0_4 a0_5 a0_6 a0_7 a0_8 a0_9 a0_10 a0_11 a0_12 a0_13 a0_14 a0_15 a0_16 a0_17 a0_18 a0_19 a0_20 a0_21 a0_22 a0_23 a0_24 a0_25 a0_26 a0_27 l0_28).bind fun bt882 => ((impl_JustifyLine.f kj35 bt882.1 bt882.2.1 bt882.2.2.1 bt882.2.2.2.1 bt882.2.2.2.2.1 bt882.2.2.2.2.2.1 bt882.2.2.2.2.2.2.1 bt882.2.2.2.2.2.2.2.1 bt882.2.2.2.2.2.2.2.2.1 bt882.2.2.2.2.2.2.2.2.2.1 bt882.2.2.2.2.2.2.2.2.2.2.1 bt882.2.2.2.2.2.2.2.2.2.2.2.1 bt882.2.2.2.2.2.2.2.2.2.2.2.2.1 bt882.2.2.2.2.2.2.2.2.2.2.2.2.2.1 bt882.2.2.2.2.2.2.2.2.2.2.2.2.2.2.1 bt882.2.2.2.2.2.2.2.2.2.2.2.2.2.2.2.1 bt882.2.2.2.2.2.2.2.2.2.2.2.2.2.2.2.2.1 bt882.2.2.2.2.2.2.2.2.2.2.2.2.2.2.2.2.2.1 bt882.2.2.2.2.2.2.2.2.2.2.2.2.2.2.2.2.2.2.1 bt882.2.2.2.2.2.2.2.2.2.2.2.2.2.2.2.2.2.2.2.1 bt882.2.2.2.2.2.2.2.2.2.2.2.2.2.2.2.2.2.2.2.2.1 bt882.2.2.2.2.2.2.2.2.2.2.2.2.2.2.2.2.2.2.2.2.2.1 bt882.2.2.2.2.2.2.2.2.2.2.2.2.2.2.2.2.2.2.2.2.2.2.1 bt882.2.2.2.2.2.2.2.2.2.2.2.2.2.2.2.2.2.2.2.2.2.2.2.1 bt882.2.2.2.2.2.2.2.2.2.2.2.2.2.2.2.2.2.2.2.2.2.2.2.2.1 bt882.2.2.2.2.2.2.2.2.2.2.2.2.2.2.2.2.2.2.2.2.2.2.2.2.2.1 bt882.2.2.2.2.2.2.2.2.2.2.2.2.2.2.2.2.2.2.2.2.2.2.2.2.2.2.1 bt882.2.2.2.2.2.2.2.2.2.2.2.2.2.2.2.2.2.2.2.2.2.2.2.2.2.2.2.1 bt882.2.2.2.2.2.2.2.2.2.2.2.2.2.2.2.2.2.2.2.2.2.2.2.2.2.2.2.2 a1 a2).bind fun bt913 => ((laws_eqInt64S.f kj35 bt913.1 t803).bind fun t917 => (if t917 = true then (laws_FnExactJustifyLine.j2 kj35 t880 t879 (bt913.2 != t806)) else (laws_FnExactJustifyLine.j2 kj35 t880 t879 true))))) else (some false))) = some r := H
                    have A51 := Aside0.mk A510
                    clear A510
                    by_cases c52 : t881 < 0
                    · rw [if_pos c52] at H
                      have c52b0 : decide (t881 < 0) = true := decide_eq_true c52
                      clear c52
                      obtain rfl := Option.some.inj H
                      obtain ⟨Ao53, co53, eo53⟩ := Kd.R_slice HO_11.out
                      subst eo53
                      go_wp2_with (first | ((with_reducible refine gate_callee (f := 31) rfl ?_); refine goesL_ (some 75) rfl rfl Tryd.func31 (by kernel_rfl) rfl #[.slice Ao53 t839.length co53, .int .i64 1] rfl (by (try simp only [List.map_toArray, List.map_cons, List.map_nil]); first | done | rfl | (simp only [List.length_drop, List.length_take]; rfl)) ?_; (with_reducible refine (laws_markInt64S.calls kj35 (fun k_ => some k_ = (.slice Ao53 t839.length co53 : Value).ownBlock) (.slice Ao53 t839.length co53) t839 1 t879 t880 w _ ?side1 ?side2 A50.out).mono ?_); (case side1 => repeat (first | (with_reducible first | exact HB.out | apply below_alloc | apply pw_below_drewN | apply below_drew1 | refine below_set ?_ GE770.out | refine below_set ?_ GE838.out) | exact HB.out)); (case side2 => exact Kd.R_tight rfl HO_11.out); rintro e w54 ⟨rfl, hy0, hb, hkp⟩; refine ⟨_, rfl, ?_⟩; have n0_ := Aside0.mk (Kd.R_mono (ok' := fun k_ => some k_ ≠ (.slice Ao53 t839.length co53 : Value).ownBlock) (Kd.R_keptB (HO_8.out) hkp (fun k_ hk_ hs_ => (hk_) hs_)) (fun k_ hk_ => hk_.1)); have n1_ := Aside0.mk (Kd.R_reok rfl hy0 (fun k_ e_ => HO_11.out.1 k_ e_)); have n2_ := Aside0.mk (Kd.R_mono (ok' := fun k_ => True) (Kd.R_keptB ((Kd.R_apart' HO_839028.out (Kd.R_typed HO_11.out) (by decide))) hkp (fun k_ hk_ hs_ => (hk_.2) hs_)) (fun k_ hk_ => trivial)); have n3_ := Aside0.mk (blk_kept (by (with_reducible repeat (first | refine blk_drewN ?_ _ | refine blk_drew ?_ | refine blk_alloc ?_ _)); exact BK770.out) hkp (fun hs_ => (fun e_ => (Kd.R_ne HO_11.out BK770.out (by decide)) e_) hs_)); have n4_ := Aside0.mk (blk_kept (by (with_reducible repeat (first | refine blk_drewN ?_ _ | refine blk_drew ?_ | refine blk_alloc ?_ _)); exact BK838.out) hkp (fun hs_ => (fun e_ => (Kd.R_ne HO_11.out BK838.out (by decide)) e_) hs_)); have n5_ := Aside0.mk (hb); clear HO_8; clear HO_11; clear HO_839028; clear BK770; clear BK838; clear HB; have HO_8 := n0_; have HO_11 := n1_; have HO_839028 := n2_; have BK770 := n3_; have BK838 := n4_; have HB := n5_; clear n0_ n1_ n2_ n3_ n4_ n5_; (try clear hb); (try clear hkp); (try clear hy0)) | ((with_reducible refine gate_callee (f := 32) rfl ?_); refine goesL_ (some 78) rfl rfl Tryd.func32 (by kernel_rfl) rfl #[.slice Ao53 t880.length co53, .int .i64 1] rfl (by (try simp only [List.map_toArray, List.map_cons, List.map_nil]); first | done | (rw [show t880.length = t839.length from (Kd.R_reads' HO_11.out).1.symm] <;> rfl) | rfl | (simp only [List.length_drop, List.length_take]; rfl)) ?_; (with_reducible refine (laws_heldInt64S.calls kj35 _ _ t880 1 t881 _ ?side1 ?side2 A51.out).mono ?_); (case side1 => repeat (first | exact (Kd.R_reads' HO_11.out).2.2 | (with_reducible refine Kd.C_alloc ?_ _) | (with_reducible refine Kd.C_drewN ?_ _) | (with_reducible refine Kd.C_drew ?_))); (case side2 => rw [show t880.length = t839.length from (Kd.R_reads' HO_11.out).1.symm]; exact (Kd.R_reads' HO_11.out).2.1); rintro e w' ⟨rfl, ⟨nd, rfl⟩⟩; refine ⟨_, rfl, ?_⟩))
                      go_ret
                      exact ⟨by first | rfl | (simp [errW_none, errW_some] <;> rfl) | (simp [*, errW_none, errW_some] <;> rfl), by repeat (first | (with_reducible first | exact HB.out | apply below_alloc | apply pw_below_drewN | apply below_drew1 | refine below_set ?_ GE770.out | refine below_set ?_ GE838.out) | exact HB.out)⟩
                    · rw [if_neg c52] at H
                      have c52b0 : decide (t881 < 0) = false := decide_eq_false c52
                      clear c52
                      by_cases c55 : t881 = t879
                      · rw [if_pos c55] at H
                        have c55b0 : (t881 == t879) = true := beq_iff_eq.mpr c55
                        have c55b1 : (t881 != t879) = false := bne_eq_false_iff_eq.mpr c55
                        clear c55
                        replace H := Option.bind_eq_some_iff.mp H
                        obtain ⟨⟨t882, t883, t884, t885, t886, t887, t888, t889, t890, t891, t892, t893, t894, t895, t896, t897, t898, t899, t900, t901, t902, t903, t904, t905, t906, t907, t908, t909, t910⟩, A560, H⟩ := H
                        replace H : ((impl_JustifyLine.f kj35 t882 t883 t884 t885 t886 t887 t888 t889 t890 t891 t892 t893 t894 t895 t896 t897 t898 t899 t900 t901 t902 t903 t904 t905 t906 t907 t908 t909 t910 a1 a2).bind fun bt913 => ((laws_eqInt64S.f kj35 bt913.1 t803).bind fun t917 => (if t917 = true then (laws_FnExactJustifyLine.j2 kj35 t880 t879 (bt913.2 != t806)) else (laws_FnExactJustifyLine.j2 kj35 t880 t879 true)))) = some r := H
                        have A56 := Aside0.mk A560
                        clear A560
                        replace H := Option.bind_eq_some_iff.mp H
                        obtain ⟨⟨t913, t916⟩, A570, H⟩ := H
                        replace H : ((laws_eqInt64S.f kj35 t913 t803).bind fun t917 => (if t917 = true then (laws_FnExactJustifyLine.j2 kj35 t880 t879 (t916 != t806)) else (laws_FnExactJustifyLine.j2 kj35 t880 t879 true))) = some r := H
                        have A57 := Aside0.mk A570
                        clear A570
                        have HC58 := Aside0.mk H
                        clear H
                        obtain ⟨Ao59, co59, eo59⟩ := Kd.R_slice HO_11.out
                        subst eo59
                        go_upto_region 27 with (first | ((with_reducible refine gate_callee (f := 31) rfl ?_); refine goesL_ (some 75) rfl rfl Tryd.func31 (by kernel_rfl) rfl #[.slice Ao59 t839.length co59, .int .i64 1] rfl (by (try simp only [List.map_toArray, List.map_cons, List.map_nil]); first | done | rfl | (simp only [List.length_drop, List.length_take]; rfl)) ?_; (with_reducible refine (laws_markInt64S.calls kj35 (fun k_ => some k_ = (.slice Ao59 t839.length co59 : Value).ownBlock) (.slice Ao59 t839.length co59) t839 1 t879 t880 w _ ?side1 ?side2 A50.out).mono ?_); (case side1 => repeat (first | (with_reducible first | exact HB.out | apply below_alloc | apply pw_below_drewN | apply below_drew1 | refine below_set ?_ GE770.out | refine below_set ?_ GE838.out) | exact HB.out)); (case side2 => exact Kd.R_tight rfl HO_11.out); rintro e w60 ⟨rfl, hy0, hb, hkp⟩; refine ⟨_, rfl, ?_⟩; have n0_ := Aside0.mk (Kd.R_mono (ok' := fun k_ => some k_ ≠ (.slice Ao59 t839.length co59 : Value).ownBlock) (Kd.R_keptB (HO_8.out) hkp (fun k_ hk_ hs_ => (hk_) hs_)) (fun k_ hk_ => hk_.1)); have n1_ := Aside0.mk (Kd.R_reok rfl hy0 (fun k_ e_ => HO_11.out.1 k_ e_)); have n2_ := Aside0.mk (Kd.R_mono (ok' := fun k_ => True) (Kd.R_keptB ((Kd.R_apart' HO_839028.out (Kd.R_typed HO_11.out) (by decide))) hkp (fun k_ hk_ hs_ => (hk_.2) hs_)) (fun k_ hk_ => trivial)); have n3_ := Aside0.mk (blk_kept (by (with_reducible repeat (first | refine blk_drewN ?_ _ | refine blk_drew ?_ | refine blk_alloc ?_ _)); exact BK770.out) hkp (fun hs_ => (fun e_ => (Kd.R_ne HO_11.out BK770.out (by decide)) e_) hs_)); have n4_ := Aside0.mk (blk_kept (by (with_reducible repeat (first | refine blk_drewN ?_ _ | refine blk_drew ?_ | refine blk_alloc ?_ _)); exact BK838.out) hkp (fun hs_ => (fun e_ => (Kd.R_ne HO_11.out BK838.out (by decide)) e_) hs_)); have n5_ := Aside0.mk (hb); clear HO_8; clear HO_11; clear HO_839028; clear BK770; clear BK838; clear HB; have HO_8 := n0_; have HO_11 := n1_; have HO_839028 := n2_; have BK770 := n3_; have BK838 := n4_; have HB := n5_; clear n0_ n1_ n2_ n3_ n4_ n5_; (try clear hb); (try clear hkp); (try clear hy0)) | ((with_reducible refine gate_callee (f := 32) rfl ?_); refine goesL_ (some 78) rfl rfl Tryd.func32 (by kernel_rfl) rfl #[.slice Ao59 t880.length co59, .int .i64 1] rfl (by (try simp only [List.map_toArray, List.map_cons, List.map_nil]); first | done | (rw [show t880.length = t839.length from (Kd.R_reads' HO_11.out).1.symm] <;> rfl) | rfl | (simp only [List.length_drop, List.length_take]; rfl)) ?_; (with_reducible refine (laws_heldInt64S.calls kj35 _ _ t880 1 t881 _ ?side1 ?side2 A51.out).mono ?_); (case side1 => repeat (first | exact (Kd.R_reads' HO_11.out).2.2 | (with_reducible refine Kd.C_alloc ?_ _) | (with_reducible refine Kd.C_drewN ?_ _) | (with_reducible refine Kd.C_drew ?_))); (case side2 => rw [show t880.length = t839.length from (Kd.R_reads' HO_11.out).1.symm]; exact (Kd.R_reads' HO_11.out).2.1); rintro e w' ⟨rfl, ⟨nd, rfl⟩⟩; refine ⟨_, rfl, ?_⟩) | ((with_reducible refine gate_dst (N := 85) rfl ?_); refine wpList_load_mid rfl 26 (.tmp 3) rfl gb770 0 rfl [.int .i8 a0_0, .int .i8 a0_1, .int .i8 a0_2, .int .i8 a0_3, .int .i8 a0_4, .int .i8 a0_5, .int .i8 a0_6, .int .i8 a0_7, .int .i8 a0_8, .int .i8 a0_9, .int .i8 a0_10, .int .i8 a0_11, .int .i8 a0_12, .int .i8 a0_13, .int .i8 a0_14, .int .i8 a0_15, .int .i8 a0_16, .int .i8 a0_17, .int .i8 a0_18, .int .i8 a0_19, .int .i8 a0_20, .int .i8 a0_21, .int .i8 a0_22, .int .i8 a0_23, .int .i8 a0_24, .int .i8 a0_25, .int .i8 a0_26, .int .i8 a0_27, .slice A0_28 l0_28.length c0_28] _ (range_partx_ [] [.int .i8 a0_0, .int .i8 a0_1, .int .i8 a0_2, .int .i8 a0_3, .int .i8 a0_4, .int .i8 a0_5, .int .i8 a0_6, .int .i8 a0_7, .int .i8 a0_8, .int .i8 a0_9, .int .i8 a0_10, .int .i8 a0_11, .int .i8 a0_12, .int .i8 a0_13, .int .i8 a0_14, .int .i8 a0_15, .int .i8 a0_16, .int .i8 a0_17, .int .i8 a0_18, .int .i8 a0_19, .int .i8 a0_20, .int .i8 a0_21, .int .i8 a0_22, .int .i8 a0_23, .int .i8 a0_24, .int .i8 a0_25, .int .i8 a0_26, .int .i8 a0_27, .slice A0_28 l0_28.length c0_28] [] 0 rfl (by (with_reducible repeat (first | refine blk_drewN ?_ _ | refine blk_drew ?_ | refine blk_alloc ?_ _)); exact BK770.out)) Tryd.underlying26 rfl (by exact (show (Tryd.prog.info? 26).map (·.size) = some 29 by kernel_rfl)) ?_) | ((with_reducible refine gate_callee (f := 20) rfl ?_); refine goesL_ (some 86) rfl rfl Tryd.func20 (by kernel_rfl) rfl #[.agg #[.int .i8 a0_0, .int .i8 a0_1, .int .i8 a0_2, .int .i8 a0_3, .int .i8 a0_4, .int .i8 a0_5, .int .i8 a0_6, .int .i8 a0_7, .int .i8 a0_8, .int .i8 a0_9, .int .i8 a0_10, .int .i8 a0_11, .int .i8 a0_12, .int .i8 a0_13, .int .i8 a0_14, .int .i8 a0_15, .int .i8 a0_16, .int .i8 a0_17, .int .i8 a0_18, .int .i8 a0_19, .int .i8 a0_20, .int .i8 a0_21, .int .i8 a0_22, .int .i8 a0_23, .int .i8 a0_24, .int .i8 a0_25, .int .i8 a0_26, .int .i8 a0_27, .slice A0_28 l0_28.length c0_28]] rfl (by (try simp only [List.map_toArray, List.map_cons, List.map_nil]); first | done | rfl | (simp only [List.length_drop, List.length_take]; rfl)) ?_; (with_reducible refine (laws_toFace.calls a0_0 a0_1 a0_2 a0_3 a0_4 a0_5 a0_6 a0_7 a0_8 a0_9 a0_10 a0_11 a0_12 a0_13 a0_14 a0_15 a0_16 a0_17 a0_18 a0_19 a0_20 a0_21 a0_22 a0_23 a0_24 a0_25 a0_26 a0_27 _ _ l0_28 t882 t883 t884 t885 t886 t887 t888 t889 t890 t891 t892 t893 t894 t895 t896 t897 t898 t899 t900 t901 t902 t903 t904 t905 t906 t907 t908 t909 t910 _ ?side1 ?side2 A56.out).mono ?_); (case side1 => repeat (first | exact (Kd.C_below HR0_28.out (by repeat (first | (with_reducible first | exact HB.out | apply below_alloc | apply pw_below_drewN | apply below_drew1 | refine below_set ?_ GE770.out | refine below_set ?_ GE838.out) | exact HB.out))) | (with_reducible refine Kd.C_alloc ?_ _) | (with_reducible refine Kd.C_drewN ?_ _) | (with_reducible refine Kd.C_drew ?_))); (case side2 => exact HC0_28.out); rintro e w61 ⟨v911, rfl, ho0, hb⟩; refine ⟨_, rfl, ?_⟩; have n0_ := Aside0.mk (Kd.R_below (by (with_reducible repeat (first | apply Kd.R_alloc | apply Kd.R_drewN | apply Kd.R_drew)); exact HO_8.out) hb); have n1_ := Aside0.mk (Kd.R_below (by (with_reducible repeat (first | apply Kd.R_alloc | apply Kd.R_drewN | apply Kd.R_drew)); exact HO_11.out) hb); have n2_ := Aside0.mk (Kd.R_elder' (by (with_reducible repeat (first | apply Kd.R_alloc | apply Kd.R_drewN | apply Kd.R_drew)); exact HO_839028.out) (Kd.R_base ho0) hb); have n3_ := Aside0.mk (Kd.R_lower (Kd.R_new' ho0 (Kd.R_lt (by (with_reducible repeat (first | apply Kd.R_alloc | apply Kd.R_drewN | apply Kd.R_drew)); exact HO_839028.out))) (below_size (by repeat (first | (with_reducible first | exact HB.out | apply below_alloc | apply pw_below_drewN | apply below_drew1 | refine below_set ?_ GE770.out | refine below_set ?_ GE838.out) | exact HB.out)))); have n4_ := Aside0.mk (blk_below (g := gb770) (o := .cells #[.int .i8 a0_0, .int .i8 a0_1, .int .i8 a0_2, .int .i8 a0_3, .int .i8 a0_4, .int .i8 a0_5, .int .i8 a0_6, .int .i8 a0_7, .int .i8 a0_8, .int .i8 a0_9, .int .i8 a0_10, .int .i8 a0_11, .int .i8 a0_12, .int .i8 a0_13, .int .i8 a0_14, .int .i8 a0_15, .int .i8 a0_16, .int .i8 a0_17, .int .i8 a0_18, .int .i8 a0_19, .int .i8 a0_20, .int .i8 a0_21, .int .i8 a0_22, .int .i8 a0_23, .int .i8 a0_24, .int .i8 a0_25, .int .i8 a0_26, .int .i8 a0_27, .slice A0_28 l0_28.length c0_28] 26 (0, 0)) (by (with_reducible repeat (first | refine blk_drewN ?_ _ | refine blk_drew ?_ | refine blk_alloc ?_ _)); exact BK770.out) hb); have n5_ := Aside0.mk (blk_below (g := gb838) (o := .cells #[.int .i8 t807, .int .i8 t808, .int .i8 t809, .int .i8 t810, .int .i8 t811, .int .i8 t812, .int .i8 t813, .int .i8 t814, .int .i8 t815, .int .i8 t816, .int .i8 t817, .int .i8 t818, .int .i8 t819, .int .i8 t820, .int .i8 t821, .int .i8 t822, .int .i8 t823, .int .i8 t824, .int .i8 t825, .int .i8 t826, .int .i8 t827, .int .i8 t828, .int .i8 t829, .int .i8 t830, .int .i8 t831, .int .i8 t832, .int .i8 t833, .int .i8 t834, .slice Ao22 t877.length co22] 32 (0, 0)) (by (with_reducible repeat (first | refine blk_drewN ?_ _ | refine blk_drew ?_ | refine blk_alloc ?_ _)); exact BK838.out) hb); have n6_ := Aside0.mk (below_step (by repeat (first | (with_reducible first | exact HB.out | apply below_alloc | apply pw_below_drewN | apply below_drew1 | refine below_set ?_ GE770.out | refine below_set ?_ GE838.out) | exact HB.out)) hb); clear HO_8; clear HO_11; clear HO_839028; clear BK770; clear BK838; clear HB; have HO_8 := n0_; have HO_11 := n1_; have HO_839028 := n2_; have HO912 := n3_; have BK770 := n4_; have BK838 := n5_; have HB := n6_; clear n0_ n1_ n2_ n3_ n4_ n5_ n6_; (try clear hb); (try clear hb2); (try clear hk); (try clear hi); (try clear ho0); obtain ⟨Ao62, co62, eo62⟩ := Kd.R_slice HO912.out; subst eo62) | ((with_reducible refine gate_callee (f := 34) rfl ?_); refine goesL_ (some 89) rfl rfl Tryd.func34 (by kernel_rfl) rfl #[.agg #[.int .i8 t882, .int .i8 t883, .int .i8 t884, .int .i8 t885, .int .i8 t886, .int .i8 t887, .int .i8 t888, .int .i8 t889, .int .i8 t890, .int .i8 t891, .int .i8 t892, .int .i8 t893, .int .i8 t894, .int .i8 t895, .int .i8 t896, .int .i8 t897, .int .i8 t898, .int .i8 t899, .int .i8 t900, .int .i8 t901, .int .i8 t902, .int .i8 t903, .int .i8 t904, .int .i8 t905, .int .i8 t906, .int .i8 t907, .int .i8 t908, .int .i8 t909, .slice Ao62 t910.length co62], .string a1, .int .i64 a2] rfl (by (try simp only [List.map_toArray, List.map_cons, List.map_nil]); first | done | rfl | (simp only [List.length_drop, List.length_take]; rfl)) ?_; (with_reducible refine (impl_JustifyLine.calls kj35 t882 t883 t884 t885 t886 t887 t888 t889 t890 t891 t892 t893 t894 t895 t896 t897 t898 t899 t900 t901 t902 t903 t904 t905 t906 t907 t908 t909 _ _ t910 a1 a2 t913 t916 _ ?side1 ?side2 ?sideG A57.out).mono ?_); (case sideG => first | exact HG.out.below (by repeat (first | (with_reducible first | exact HB.out | apply below_alloc | apply pw_below_drewN | apply below_drew1) | exact HB.out)) | exact (HG.out.below (by repeat (first | (with_reducible first | exact HB.out | apply below_alloc | apply pw_below_drewN | apply below_drew1) | exact HB.out))).toM); (case side1 => repeat (first | exact (Kd.R_reads' HO912.out).2.2 | (with_reducible refine Kd.C_alloc ?_ _) | (with_reducible refine Kd.C_drewN ?_ _) | (with_reducible refine Kd.C_drew ?_))); (case side2 => exact (Kd.R_reads' HO912.out).2.1); rintro e w63 ⟨v914, rfl, ho0, hb⟩; refine ⟨_, rfl, ?_⟩; have n0_ := Aside0.mk (Kd.R_elder' (by (with_reducible repeat (first | apply Kd.R_alloc | apply Kd.R_drewN | apply Kd.R_drew)); exact HO_8.out) (Kd.R_base ho0) hb); have n1_ := Aside0.mk (Kd.R_elder' (by (with_reducible repeat (first | apply Kd.R_alloc | apply Kd.R_drewN | apply Kd.R_drew)); exact HO_11.out) (Kd.R_base ho0) hb); have n2_ := Aside0.mk (Kd.R_below (by (with_reducible repeat (first | apply Kd.R_alloc | apply Kd.R_drewN | apply Kd.R_drew)); exact HO_839028.out) hb); have n3_ := Aside0.mk (Kd.R_below (by (with_reducible repeat (first | apply Kd.R_alloc | apply Kd.R_drewN | apply Kd.R_drew)); exact HO912.out) hb); have n4_ := Aside0.mk (Kd.R_lower (Kd.R_new' (Kd.R_new' ho0 (Kd.R_lt (by (with_reducible repeat (first | apply Kd.R_alloc | apply Kd.R_drewN | apply Kd.R_drew)); exact HO_8.out))) (Kd.R_lt (by (with_reducible repeat (first | apply Kd.R_alloc | apply Kd.R_drewN | apply Kd.R_drew)); exact HO_11.out))) (below_size (by repeat (first | (with_reducible first | exact HB.out | apply below_alloc | apply pw_below_drewN | apply below_drew1 | refine below_set ?_ GE770.out | refine below_set ?_ GE838.out) | exact HB.out)))); have n5_ := Aside0.mk (blk_below (g := gb770) (o := .cells #[.int .i8 a0_0, .int .i8 a0_1, .int .i8 a0_2, .int .i8 a0_3, .int .i8 a0_4, .int .i8 a0_5, .int .i8 a0_6, .int .i8 a0_7, .int .i8 a0_8, .int .i8 a0_9, .int .i8 a0_10, .int .i8 a0_11, .int .i8 a0_12, .int .i8 a0_13, .int .i8 a0_14, .int .i8 a0_15, .int .i8 a0_16, .int .i8 a0_17, .int .i8 a0_18, .int .i8 a0_19, .int .i8 a0_20, .int .i8 a0_21, .int .i8 a0_22, .int .i8 a0_23, .int .i8 a0_24, .int .i8 a0_25, .int .i8 a0_26, .int .i8 a0_27, .slice A0_28 l0_28.length c0_28] 26 (0, 0)) (by (with_reducible repeat (first | refine blk_drewN ?_ _ | refine blk_drew ?_ | refine blk_alloc ?_ _)); exact BK770.out) hb); have n6_ := Aside0.mk (blk_below (g := gb838) (o := .cells #[.int .i8 t807, .int .i8 t808, .int .i8 t809, .int .i8 t810, .int .i8 t811, .int .i8 t812, .int .i8 t813, .int .i8 t814, .int .i8 t815, .int .i8 t816, .int .i8 t817, .int .i8 t818, .int .i8 t819, .int .i8 t820, .int .i8 t821, .int .i8 t822, .int .i8 t823, .int .i8 t824, .int .i8 t825, .int .i8 t826, .int .i8 t827, .int .i8 t828, .int .i8 t829, .int .i8 t830, .int .i8 t831, .int .i8 t832, .int .i8 t833, .int .i8 t834, .slice Ao22 t877.length co22] 32 (0, 0)) (by (with_reducible repeat (first | refine blk_drewN ?_ _ | refine blk_drew ?_ | refine blk_alloc ?_ _)); exact BK838.out) hb); have n7_ := Aside0.mk (below_step (by repeat (first | (with_reducible first | exact HB.out | apply below_alloc | apply pw_below_drewN | apply below_drew1 | refine below_set ?_ GE770.out | refine below_set ?_ GE838.out) | exact HB.out)) hb); clear HO_8; clear HO_11; clear HO_839028; clear HO912; clear BK770; clear BK838; clear HB; have HO_8 := n0_; have HO_11 := n1_; have HO_839028 := n2_; have HO912 := n3_; have HO915 := n4_; have BK770 := n5_; have BK838 := n6_; have HB := n7_; clear n0_ n1_ n2_ n3_ n4_ n5_ n6_ n7_; (try clear hb); (try clear hb2); (try clear hk); (try clear hi); (try clear ho0)))
                        (try simp only [Act.put, List.setIfInBounds_toArray, List.set_cons_zero, List.set_cons_succ])
                        go_cut [100] (fun v100 wc => ∃ (kq : Nat) (x100_57 : Bool), v100 = .bool x100_57 ∧ Aside0 (laws_FnExactJustifyLine.j2 kq t880 t879 x100_57 = some r) ∧ Aside0 (kq ≤ kj35) ∧ Aside0 (Kd.R (Kd.int .i64) 2 wc w.heap.size (fun _ => True) (.slice Ao59 t839.length co59) t880) ∧ Aside0 (Kd.R k137 137 wc w.heap.size (fun _ => True) (.slice Ao22 t877.length co22) t877) ∧ Aside0 (wc.heap[gb770]? = some (.cells #[.int .i8 a0_0, .int .i8 a0_1, .int .i8 a0_2, .int .i8 a0_3, .int .i8 a0_4, .int .i8 a0_5, .int .i8 a0_6, .int .i8 a0_7, .int .i8 a0_8, .int .i8 a0_9, .int .i8 a0_10, .int .i8 a0_11, .int .i8 a0_12, .int .i8 a0_13, .int .i8 a0_14, .int .i8 a0_15, .int .i8 a0_16, .int .i8 a0_17, .int .i8 a0_18, .int .i8 a0_19, .int .i8 a0_20, .int .i8 a0_21, .int .i8 a0_22, .int .i8 a0_23, .int .i8 a0_24, .int .i8 a0_25, .int .i8 a0_26, .int .i8 a0_27, (.slice A0_28 l0_28.length c0_28)] 26 (0, 0))) ∧ Aside0 (wc.heap[gb838]? = some (.cells #[.int .i8 t807, .int .i8 t808, .int .i8 t809, .int .i8 t810, .int .i8 t811, .int .i8 t812, .int .i8 t813, .int .i8 t814, .int .i8 t815, .int .i8 t816, .int .i8 t817, .int .i8 t818, .int .i8 t819, .int .i8 t820, .int .i8 t821, .int .i8 t822, .int .i8 t823, .int .i8 t824, .int .i8 t825, .int .i8 t826, .int .i8 t827, .int .i8 t828, .int .i8 t829, .int .i8 t830, .int .i8 t831, .int .i8 t832, .int .i8 t833, .int .i8 t834, (.slice Ao22 t877.length co22)] 32 (0, 0))) ∧ Aside0 (Below w.heap.size w wc))
                        case first =>
                          have H := HC58.out
                          clear HC58
                          replace H := Option.bind_eq_some_iff.mp H
                          obtain ⟨t917, A640, H⟩ := H
                          replace H : (if t917 = true then (laws_FnExactJustifyLine.j2 kj35 t880 t879 (t916 != t806)) else (laws_FnExactJustifyLine.j2 kj35 t880 t879 true)) = some r := H
                          have A64 := Aside0.mk A640
                          clear A640
                          by_cases c65 : t917 = true
                          · subst c65
                            have H1 : (laws_FnExactJustifyLine.j2 kj35 t880 t879 (t916 != t806)) = some r := by rw [if_pos rfl] at H; exact H
                            clear H
                            have H := H1
                            clear H1
                            have H' := Aside0.mk H
                            clear H
                            obtain ⟨Ao66, co66, eo66⟩ := Kd.R_slice HO915.out
                            subst eo66
                            obtain ⟨Ao67, co67, eo67⟩ := Kd.R_slice HO_8.out
                            subst eo67
                            go_wp2_with (first | ((with_reducible refine gate_callee (f := 29) rfl ?_); refine goesL_ (some 94) rfl rfl Tryd.func29 (by kernel_rfl) rfl #[.slice Ao66 t913.length co66, .slice Ao67 t803.length co67] rfl (by (try simp only [List.map_toArray, List.map_cons, List.map_nil]); first | done | rfl | (simp only [List.length_drop, List.length_take]; rfl)) ?_; (with_reducible refine (laws_eqInt64S.calls kj35 _ _ t913 _ _ t803 true _ ?side1 ?side2 ?side3 ?side4 A64.out).mono ?_); (case side1 => repeat (first | exact (Kd.R_reads' HO915.out).2.2 | (with_reducible refine Kd.C_alloc ?_ _) | (with_reducible refine Kd.C_drewN ?_ _) | (with_reducible refine Kd.C_drew ?_))); (case side2 => exact (Kd.R_reads' HO915.out).2.1); (case side3 => repeat (first | exact (Kd.R_reads' HO_8.out).2.2 | (with_reducible refine Kd.C_alloc ?_ _) | (with_reducible refine Kd.C_drewN ?_ _) | (with_reducible refine Kd.C_drew ?_))); (case side4 => exact (Kd.R_reads' HO_8.out).2.1); rintro e w' ⟨rfl, ⟨nd, rfl⟩⟩; refine ⟨_, rfl, ?_⟩))
                            go_meet
                            case rel => exact ⟨_, ((t916 != t806)), (by first | rfl | (simp; done) | (simp [*]; done)), H', ⟨by have := HJ13.out; have := HJ35.out; first | omega | exact Nat.le_refl _⟩, ⟨by (try simp only [hl839028_35]); (with_reducible repeat (first | apply Kd.R_alloc | apply Kd.R_drewN | apply Kd.R_drew)); exact Kd.R_mono HO_11.out (fun _ hk => trivial)⟩, ⟨by (try simp only [hl839028_35]); (with_reducible repeat (first | apply Kd.R_alloc | apply Kd.R_drewN | apply Kd.R_drew)); exact Kd.R_mono HO_839028.out (fun _ hk => trivial)⟩, ⟨by (try simp only [hl839028_35]); (with_reducible repeat (first | refine blk_drewN ?_ _ | refine blk_drew ?_ | refine blk_alloc ?_ _)); exact BK770.out⟩, ⟨by (try simp only [hl839028_35]); (with_reducible repeat (first | refine blk_drewN ?_ _ | refine blk_drew ?_ | refine blk_alloc ?_ _)); exact BK838.out⟩, ⟨by repeat (first | (with_reducible first | exact HB.out | apply below_alloc | apply pw_below_drewN | apply below_drew1 | refine below_set ?_ GE770.out | refine below_set ?_ GE838.out) | exact HB.out)⟩⟩
                          · replace c65 := Bool.eq_false_iff.mpr c65
                            subst c65
                            have H1 : (laws_FnExactJustifyLine.j2 kj35 t880 t879 true) = some r := by rw [if_neg (show ¬ (false = true) by decide)] at H; exact H
                            clear H
                            have H := H1
                            clear H1
                            have H' := Aside0.mk H
                            clear H
                            obtain ⟨Ao68, co68, eo68⟩ := Kd.R_slice HO915.out
                            subst eo68
                            obtain ⟨Ao69, co69, eo69⟩ := Kd.R_slice HO_8.out
                            subst eo69
                            go_wp2_with (first | ((with_reducible refine gate_callee (f := 29) rfl ?_); refine goesL_ (some 94) rfl rfl Tryd.func29 (by kernel_rfl) rfl #[.slice Ao68 t913.length co68, .slice Ao69 t803.length co69] rfl (by (try simp only [List.map_toArray, List.map_cons, List.map_nil]); first | done | rfl | (simp only [List.length_drop, List.length_take]; rfl)) ?_; (with_reducible refine (laws_eqInt64S.calls kj35 _ _ t913 _ _ t803 false _ ?side1 ?side2 ?side3 ?side4 A64.out).mono ?_); (case side1 => repeat (first | exact (Kd.R_reads' HO915.out).2.2 | (with_reducible refine Kd.C_alloc ?_ _) | (with_reducible refine Kd.C_drewN ?_ _) | (with_reducible refine Kd.C_drew ?_))); (case side2 => exact (Kd.R_reads' HO915.out).2.1); (case side3 => repeat (first | exact (Kd.R_reads' HO_8.out).2.2 | (with_reducible refine Kd.C_alloc ?_ _) | (with_reducible refine Kd.C_drewN ?_ _) | (with_reducible refine Kd.C_drew ?_))); (case side4 => exact (Kd.R_reads' HO_8.out).2.1); rintro e w' ⟨rfl, ⟨nd, rfl⟩⟩; refine ⟨_, rfl, ?_⟩))
                            go_meet
                            case rel => exact ⟨_, (true), (by first | rfl | (simp; done) | (simp [*]; done)), H', ⟨by have := HJ13.out; have := HJ35.out; first | omega | exact Nat.le_refl _⟩, ⟨by (try simp only [hl839028_35]); (with_reducible repeat (first | apply Kd.R_alloc | apply Kd.R_drewN | apply Kd.R_drew)); exact Kd.R_mono HO_11.out (fun _ hk => trivial)⟩, ⟨by (try simp only [hl839028_35]); (with_reducible repeat (first | apply Kd.R_alloc | apply Kd.R_drewN | apply Kd.R_drew)); exact Kd.R_mono HO_839028.out (fun _ hk => trivial)⟩, ⟨by (try simp only [hl839028_35]); (with_reducible repeat (first | refine blk_drewN ?_ _ | refine blk_drew ?_ | refine blk_alloc ?_ _)); exact BK770.out⟩, ⟨by (try simp only [hl839028_35]); (with_reducible repeat (first | refine blk_drewN ?_ _ | refine blk_drew ?_ | refine blk_alloc ?_ _)); exact BK838.out⟩, ⟨by repeat (first | (with_reducible first | exact HB.out | apply below_alloc | apply pw_below_drewN | apply below_drew1 | refine below_set ?_ GE770.out | refine below_set ?_ GE838.out) | exact HB.out)⟩⟩
                        case rest =>
                          clear HC58
                          try clear c1
                          try clear c2
                          try clear p2
                          try clear c3
                          try clear c4
                          try clear c4b0
                          try clear c4b1
                          try clear c5
                          try clear c6
                          try clear c7
                          try clear c7b0
                          try clear c18
                          try clear c20
                          try clear c22
                          try clear c26
                          try clear c29
                          try clear c30
                          try clear c31
                          try clear c32
                          try clear c33
                          try clear c34
                          try clear c42
                          try clear c42b0
                          try clear c44
                          try clear c49
                          try clear c52
                          try clear c52b0
                          try clear c55
                          try clear c55b0
                          try clear c55b1
                          try clear c65
                          try clear p2
                          obtain ⟨kq, x100_57, rfl, HA, HJ57, HO_11, HO_839028, BK770, BK838, HB⟩ := hcut
                          have hl11_57 := (Kd.R_reads' HO_11.out).1
                          rw [hl11_57] at HO_11
                          (try simp only [hl11_57])
                          (try simp only [hl11_57] at BK770)
                          (try simp only [hl11_57] at BK838)
                          (try simp only [hl11_57] at HO_839028)
                          cases kq with
                          | zero => exact absurd HA.out (by simp [laws_FnExactJustifyLine.j2])
                          | succ kj57 =>
                            have H := HA.out
                            clear HA
                            simp only [laws_FnExactJustifyLine.j2] at H
                            by_cases c70 : x100_57 = true
                            · subst c70
                              have H1 : (some false) = some r := by rw [if_pos rfl] at H; exact H
                              clear H
                              have H := H1
                              clear H1
                              obtain rfl := Option.some.inj H
                              go_wp2
                              go_ret
                              exact ⟨by first | rfl | (simp [errW_none, errW_some] <;> rfl) | (simp [*, errW_none, errW_some] <;> rfl), by repeat (first | (with_reducible first | exact HB.out | apply below_alloc | apply pw_below_drewN | apply below_drew1 | refine below_set ?_ GE770.out | refine below_set ?_ GE838.out) | exact HB.out)⟩
                            · replace c70 := Bool.eq_false_iff.mpr c70
                              subst c70
                              have H1 : ((laws_heldInt64S.f kj57 t880 1).bind fun t918 => (if t918 < 0 then (some false) else (if t918 = t879 then (some true) else (some false)))) = some r := by rw [if_neg (show ¬ (false = true) by decide)] at H; exact H
                              clear H
                              have H := H1
                              clear H1
                              replace H := Option.bind_eq_some_iff.mp H
                              obtain ⟨t918, A710, H⟩ := H
                              replace H : (if t918 < 0 then (some false) else (if t918 = t879 then (some true) else (some false))) = some r := H
                              have A71 := Aside0.mk A710
                              clear A710
                              by_cases c72 : t918 < 0
                              · rw [if_pos c72] at H
                                have c72b0 : decide (t918 < 0) = true := decide_eq_true c72
                                clear c72
                                obtain rfl := Option.some.inj H
                                go_wp2_with (first | ((with_reducible refine gate_callee (f := 32) rfl ?_); refine goesL_ (some 103) rfl rfl Tryd.func32 (by kernel_rfl) rfl #[.slice Ao59 t880.length co59, .int .i64 1] rfl (by (try simp only [List.map_toArray, List.map_cons, List.map_nil]); first | done | rfl | (simp only [List.length_drop, List.length_take]; rfl)) ?_; (with_reducible refine (laws_heldInt64S.calls kj57 _ _ t880 1 t918 _ ?side1 ?side2 A71.out).mono ?_); (case side1 => repeat (first | exact (Kd.R_reads' HO_11.out).2.2 | (with_reducible refine Kd.C_alloc ?_ _) | (with_reducible refine Kd.C_drewN ?_ _) | (with_reducible refine Kd.C_drew ?_))); (case side2 => exact (Kd.R_reads' HO_11.out).2.1); rintro e w' ⟨rfl, ⟨nd, rfl⟩⟩; refine ⟨_, rfl, ?_⟩))
                                go_ret
                                exact ⟨by first | rfl | (simp [errW_none, errW_some] <;> rfl) | (simp [*, errW_none, errW_some] <;> rfl), by repeat (first | (with_reducible first | exact HB.out | apply below_alloc | apply pw_below_drewN | apply below_drew1 | refine below_set ?_ GE770.out | refine below_set ?_ GE838.out) | exact HB.out)⟩
                              · rw [if_neg c72] at H
                                have c72b0 : decide (t918 < 0) = false := decide_eq_false c72
                                clear c72
                                by_cases c73 : t918 = t879
                                · rw [if_pos c73] at H
                                  have c73b0 : (t918 == t879) = true := beq_iff_eq.mpr c73
                                  have c73b1 : (t918 != t879) = false := bne_eq_false_iff_eq.mpr c73
                                  clear c73
                                  obtain rfl := Option.some.inj H
                                  go_wp2_with (first | ((with_reducible refine gate_callee (f := 32) rfl ?_); refine goesL_ (some 103) rfl rfl Tryd.func32 (by kernel_rfl) rfl #[.slice Ao59 t880.length co59, .int .i64 1] rfl (by (try simp only [List.map_toArray, List.map_cons, List.map_nil]); first | done | rfl | (simp only [List.length_drop, List.length_take]; rfl)) ?_; (with_reducible refine (laws_heldInt64S.calls kj57 _ _ t880 1 t918 _ ?side1 ?side2 A71.out).mono ?_); (case side1 => repeat (first | exact (Kd.R_reads' HO_11.out).2.2 | (with_reducible refine Kd.C_alloc ?_ _) | (with_reducible refine Kd.C_drewN ?_ _) | (with_reducible refine Kd.C_drew ?_))); (case side2 => exact (Kd.R_reads' HO_11.out).2.1); rintro e w' ⟨rfl, ⟨nd, rfl⟩⟩; refine ⟨_, rfl, ?_⟩))
                                  go_ret
                                  exact ⟨by first | rfl | (simp [errW_none, errW_some] <;> rfl) | (simp [*, errW_none, errW_some] <;> rfl), by repeat (first | (with_reducible first | exact HB.out | apply below_alloc | apply pw_below_drewN | apply below_drew1 | refine below_set ?_ GE770.out | refine below_set ?_ GE838.out) | exact HB.out)⟩
                                · rw [if_neg c73] at H
                                  have c73b0 : (t918 == t879) = false := beq_eq_false_iff_ne.mpr c73
                                  have c73b1 : (t918 != t879) = true := bne_iff_ne.mpr c73
                                  obtain rfl := Option.some.inj H
                                  go_wp2_with (first | ((with_reducible refine gate_callee (f := 32) rfl ?_); refine goesL_ (some 103) rfl rfl Tryd.func32 (by kernel_rfl) rfl #[.slice Ao59 t880.length co59, .int .i64 1] rfl (by (try simp only [List.map_toArray, List.map_cons, List.map_nil]); first | done | rfl | (simp only [List.length_drop, List.length_take]; rfl)) ?_; (with_reducible refine (laws_heldInt64S.calls kj57 _ _ t880 1 t918 _ ?side1 ?side2 A71.out).mono ?_); (case side1 => repeat (first | exact (Kd.R_reads' HO_11.out).2.2 | (with_reducible refine Kd.C_alloc ?_ _) | (with_reducible refine Kd.C_drewN ?_ _) | (with_reducible refine Kd.C_drew ?_))); (case side2 => exact (Kd.R_reads' HO_11.out).2.1); rintro e w' ⟨rfl, ⟨nd, rfl⟩⟩; refine ⟨_, rfl, ?_⟩))
                                  go_ret
                                  exact ⟨by first | rfl | (simp [errW_none, errW_some] <;> rfl) | (simp [*, errW_none, errW_some] <;> rfl), by repeat (first | (with_reducible first | exact HB.out | apply below_alloc | apply pw_below_drewN | apply below_drew1 | refine below_set ?_ GE770.out | refine below_set ?_ GE838.out) | exact HB.out)⟩
                      · rw [if_neg c55] at H
                        have c55b0 : (t881 == t879) = false := beq_eq_false_iff_ne.mpr c55
                        have c55b1 : (t881 != t879) = true := bne_iff_ne.mpr c55
                        obtain rfl := Option.some.inj H
                        obtain ⟨Ao74, co74, eo74⟩ := Kd.R_slice HO_11.out
                        subst eo74
                        go_wp2_with (first | ((with_reducible refine gate_callee (f := 31) rfl ?_); refine goesL_ (some 75) rfl rfl Tryd.func31 (by kernel_rfl) rfl #[.slice Ao74 t839.length co74, .int .i64 1] rfl (by (try simp only [List.map_toArray, List.map_cons, List.map_nil]); first | done | rfl | (simp only [List.length_drop, List.length_take]; rfl)) ?_; (with_reducible refine (laws_markInt64S.calls kj35 (fun k_ => some k_ = (.slice Ao74 t839.length co74 : Value).ownBlock) (.slice Ao74 t839.length co74) t839 1 t879 t880 w _ ?side1 ?side2 A50.out).mono ?_); (case side1 => repeat (first | (with_reducible first | exact HB.out | apply below_alloc | apply pw_below_drewN | apply below_drew1 | refine below_set ?_ GE770.out | refine below_set ?_ GE838.out) | exact HB.out)); (case side2 => exact Kd.R_tight rfl HO_11.out); rintro e w75 ⟨rfl, hy0, hb, hkp⟩; refine ⟨_, rfl, ?_⟩; have n0_ := Aside0.mk (Kd.R_mono (ok' := fun k_ => some k_ ≠ (.slice Ao74 t839.length co74 : Value).ownBlock) (Kd.R_keptB (HO_8.out) hkp (fun k_ hk_ hs_ => (hk_) hs_)) (fun k_ hk_ => hk_.1)); have n1_ := Aside0.mk (Kd.R_reok rfl hy0 (fun k_ e_ => HO_11.out.1 k_ e_)); have n2_ := Aside0.mk (Kd.R_mono (ok' := fun k_ => True) (Kd.R_keptB ((Kd.R_apart' HO_839028.out (Kd.R_typed HO_11.out) (by decide))) hkp (fun k_ hk_ hs_ => (hk_.2) hs_)) (fun k_ hk_ => trivial)); have n3_ := Aside0.mk (blk_kept (by (with_reducible repeat (first | refine blk_drewN ?_ _ | refine blk_drew ?_ | refine blk_alloc ?_ _)); exact BK770.out) hkp (fun hs_ => (fun e_ => (Kd.R_ne HO_11.out BK770.out (by decide)) e_) hs_)); have n4_ := Aside0.mk (blk_kept (by (with_reducible repeat (first | refine blk_drewN ?_ _ | refine blk_drew ?_ | refine blk_alloc ?_ _)); exact BK838.out) hkp (fun hs_ => (fun e_ => (Kd.R_ne HO_11.out BK838.out (by decide)) e_) hs_)); have n5_ := Aside0.mk (hb); clear HO_8; clear HO_11; clear HO_839028; clear BK770; clear BK838; clear HB; have HO_8 := n0_; have HO_11 := n1_; have HO_839028 := n2_; have BK770 := n3_; have BK838 := n4_; have HB := n5_; clear n0_ n1_ n2_ n3_ n4_ n5_; (try clear hb); (try clear hkp); (try clear hy0)) | ((with_reducible refine gate_callee (f := 32) rfl ?_); refine goesL_ (some 78) rfl rfl Tryd.func32 (by kernel_rfl) rfl #[.slice Ao74 t880.length co74, .int .i64 1] rfl (by (try simp only [List.map_toArray, List.map_cons, List.map_nil]); first | done | (rw [show t880.length = t839.length from (Kd.R_reads' HO_11.out).1.symm] <;> rfl) | rfl | (simp only [List.length_drop, List.length_take]; rfl)) ?_; (with_reducible refine (laws_heldInt64S.calls kj35 _ _ t880 1 t881 _ ?side1 ?side2 A51.out).mono ?_); (case side1 => repeat (first | exact (Kd.R_reads' HO_11.out).2.2 | (with_reducible refine Kd.C_alloc ?_ _) | (with_reducible refine Kd.C_drewN ?_ _) | (with_reducible refine Kd.C_drew ?_))); (case side2 => rw [show t880.length = t839.length from (Kd.R_reads' HO_11.out).1.symm]; exact (Kd.R_reads' HO_11.out).2.1); rintro e w' ⟨rfl, ⟨nd, rfl⟩⟩; refine ⟨_, rfl, ?_⟩))
                        go_ret
                        exact ⟨by first | rfl | (simp [errW_none, errW_some] <;> rfl) | (simp [*, errW_none, errW_some] <;> rfl), by repeat (first | (with_reducible first | exact HB.out | apply below_alloc | apply pw_below_drewN | apply below_drew1 | refine below_set ?_ GE770.out | refine below_set ?_ GE838.out) | exact HB.out)⟩
            · replace c34 := Bool.eq_false_iff.mpr c34
              subst c34
              have H1 : (some false) = some r := by rw [if_neg (show ¬ (false = true) by decide)] at H; exact H
              clear H
              have H := H1
              clear H1
              obtain rfl := Option.some.inj H
              try go_wp2
              have n0_ := Aside0.mk (Kd.R_drew HO_8.out)
              have n1_ := Aside0.mk (Kd.R_drew HO_11.out)
              have n2_ := Aside0.mk (Kd.R_drew HO_839028.out)
              have n3_ := Aside0.mk (blk_drew BK770.out)
              have n4_ := Aside0.mk (blk_drew BK838.out)
              have n5_ := Aside0.mk (below_drew1 HB.out)
              clear HO_8
              clear HO_11
              clear HO_839028
              clear BK770
              clear BK838
              clear HB
              have HO_8 := n0_
              have HO_11 := n1_
              have HO_839028 := n2_
              have BK770 := n3_
              have BK838 := n4_
              have HB := n5_
              clear n0_ n1_ n2_ n3_ n4_ n5_
              refine start_ (n := 5) (S := fun w' => w'.heap[gb838]? = some (.cells #[.int .i8 t807, .int .i8 t808, .int .i8 t809, .int .i8 t810, .int .i8 t811, .int .i8 t812, .int .i8 t813, .int .i8 t814, .int .i8 t815, .int .i8 t816, .int .i8 t817, .int .i8 t818, .int .i8 t819, .int .i8 t820, .int .i8 t821, .int .i8 t822, .int .i8 t823, .int .i8 t824, .int .i8 t825, .int .i8 t826, .int .i8 t827, .int .i8 t828, .int .i8 t829, .int .i8 t830, .int .i8 t831, .int .i8 t832, .int .i8 t833, .int .i8 t834, .slice Ao22 t835.length co22] 32 (0, 0)) ∧ w'.heap[gb770]? = some (.cells #[.int .i8 a0_0, .int .i8 a0_1, .int .i8 a0_2, .int .i8 a0_3, .int .i8 a0_4, .int .i8 a0_5, .int .i8 a0_6, .int .i8 a0_7, .int .i8 a0_8, .int .i8 a0_9, .int .i8 a0_10, .int .i8 a0_11, .int .i8 a0_12, .int .i8 a0_13, .int .i8 a0_14, .int .i8 a0_15, .int .i8 a0_16, .int .i8 a0_17, .int .i8 a0_18, .int .i8 a0_19, .int .i8 a0_20, .int .i8 a0_21, .int .i8 a0_22, .int .i8 a0_23, .int .i8 a0_24, .int .i8 a0_25, .int .i8 a0_26, .int .i8 a0_27, .slice A0_28 l0_28.length c0_28] 26 (0, 0))) (ds := []) #[false, false, false, false, false] (by kernel_rfl) rfl rfl ⟨BK838.out, BK770.out⟩ (fun hHeld => ?_)
              generalize wc.drew = w76 at HO_8 HO_11 HO_839028 BK770 BK838 HB hHeld ⊢
              refine take_ (i := 0) (N := some 52) (v := ?_) (a' := ?_) #[true, false, false, false, false] rfl rfl (by kernel_rfl) (fun _ _ _ h => h) (Or.inl ⟨by rfl, ?_⟩) hHeld ?_ ?_
              rotate_left
              · rintro w' ⟨s0, s1⟩
                refine exec_load_partx_ 32 (.tmp 10) _ 0 [] [.int .i8 t807, .int .i8 t808, .int .i8 t809, .int .i8 t810, .int .i8 t811, .int .i8 t812, .int .i8 t813, .int .i8 t814, .int .i8 t815, .int .i8 t816, .int .i8 t817, .int .i8 t818, .int .i8 t819, .int .i8 t820, .int .i8 t821, .int .i8 t822, .int .i8 t823, .int .i8 t824, .int .i8 t825, .int .i8 t826, .int .i8 t827, .int .i8 t828, .int .i8 t829, .int .i8 t830, .int .i8 t831, .int .i8 t832, .int .i8 t833, .int .i8 t834, .slice Ao22 t835.length co22] [] rfl s0 ?_ ?_ Tryd.underlying32 rfl (by exact (show (Tryd.prog.info? 32).map (·.size) = some 29 by kernel_rfl))
                · rfl
                · rfl
              rotate_left
              · simp only [Act.put, List.setIfInBounds_toArray, List.set_cons_zero, List.set_cons_succ, i64_w, i32_w, u8_w_]
                rfl
              refine take_ (i := 1) (N := some 53) (v := ?_) (a' := ?_) #[true, true, false, false, false] rfl rfl (by kernel_rfl) (fun _ _ _ h => h) (Or.inl ⟨by rfl, ?_⟩) hHeld ?_ ?_
              rotate_left
              · rintro w' ⟨s0, s1⟩
                refine exec_load_partx_ 26 (.tmp 3) _ 0 [] [.int .i8 a0_0, .int .i8 a0_1, .int .i8 a0_2, .int .i8 a0_3, .int .i8 a0_4, .int .i8 a0_5, .int .i8 a0_6, .int .i8 a0_7, .int .i8 a0_8, .int .i8 a0_9, .int .i8 a0_10, .int .i8 a0_11, .int .i8 a0_12, .int .i8 a0_13, .int .i8 a0_14, .int .i8 a0_15, .int .i8 a0_16, .int .i8 a0_17, .int .i8 a0_18, .int .i8 a0_19, .int .i8 a0_20, .int .i8 a0_21, .int .i8 a0_22, .int .i8 a0_23, .int .i8 a0_24, .int .i8 a0_25, .int .i8 a0_26, .int .i8 a0_27, .slice A0_28 l0_28.length c0_28] [] rfl s1 ?_ ?_ Tryd.underlying26 rfl (by exact (show (Tryd.prog.info? 26).map (·.size) = some 29 by kernel_rfl))
                · rfl
                · rfl
              rotate_left
              · simp only [Act.put, List.setIfInBounds_toArray, List.set_cons_zero, List.set_cons_succ, i64_w, i32_w, u8_w_]
                rfl
              refine one_ (i := 2) (N := some 54) #[true, true, true, false, false] rfl rfl (by kernel_rfl) (by decide) (fun K hK => ?_)
              refine goes_ Tryd.func20 (by kernel_rfl) rfl #[.agg #[.int .i8 a0_0, .int .i8 a0_1, .int .i8 a0_2, .int .i8 a0_3, .int .i8 a0_4, .int .i8 a0_5, .int .i8 a0_6, .int .i8 a0_7, .int .i8 a0_8, .int .i8 a0_9, .int .i8 a0_10, .int .i8 a0_11, .int .i8 a0_12, .int .i8 a0_13, .int .i8 a0_14, .int .i8 a0_15, .int .i8 a0_16, .int .i8 a0_17, .int .i8 a0_18, .int .i8 a0_19, .int .i8 a0_20, .int .i8 a0_21, .int .i8 a0_22, .int .i8 a0_23, .int .i8 a0_24, .int .i8 a0_25, .int .i8 a0_26, .int .i8 a0_27, .slice A0_28 l0_28.length c0_28]] (by rfl) rfl rfl (by (try simp only [List.map_toArray, List.map_cons, List.map_nil]); first | done | rfl | (simp only [List.length_drop, List.length_take]; rfl)) ?_
              with_reducible refine (laws_toFace.calls a0_0 a0_1 a0_2 a0_3 a0_4 a0_5 a0_6 a0_7 a0_8 a0_9 a0_10 a0_11 a0_12 a0_13 a0_14 a0_15 a0_16 a0_17 a0_18 a0_19 a0_20 a0_21 a0_22 a0_23 a0_24 a0_25 a0_26 a0_27 _ _ l0_28 t844 t845 t846 t847 t848 t849 t850 t851 t852 t853 t854 t855 t856 t857 t858 t859 t860 t861 t862 t863 t864 t865 t866 t867 t868 t869 t870 t871 t872 _ ?side1 ?side2 A32.out).mono ?_
              (case side1 => repeat (first | exact (Kd.C_below HR0_28.out HB.out) | (with_reducible refine Kd.C_alloc ?_ _) | (with_reducible refine Kd.C_drewN ?_ _) | (with_reducible refine Kd.C_drew ?_)))
              (case side2 => exact HC0_28.out)
              rintro e w77 ⟨v873, rfl, ho0, hb⟩
              refine ⟨_, rfl, ?_⟩
              have n0_ := Aside0.mk (Kd.R_below (by (with_reducible repeat (first | apply Kd.R_alloc | apply Kd.R_drewN | apply Kd.R_drew)); exact HO_8.out) hb)
              have n1_ := Aside0.mk (Kd.R_below (by (with_reducible repeat (first | apply Kd.R_alloc | apply Kd.R_drewN | apply Kd.R_drew)); exact HO_11.out) hb)
              have n2_ := Aside0.mk (Kd.R_elder' (by (with_reducible repeat (first | apply Kd.R_alloc | apply Kd.R_drewN | apply Kd.R_drew)); exact HO_839028.out) (Kd.R_base ho0) hb)
              have n3_ := Aside0.mk (Kd.R_lower (Kd.R_new' ho0 (Kd.R_lt (by (with_reducible repeat (first | apply Kd.R_alloc | apply Kd.R_drewN | apply Kd.R_drew)); exact HO_839028.out))) (below_size (by repeat (first | (with_reducible first | exact HB.out | apply below_alloc | apply pw_below_drewN | apply below_drew1 | refine below_set ?_ GE770.out | refine below_set ?_ GE838.out) | exact HB.out))))
              have n4_ := Aside0.mk (blk_below (g := gb770) (o := .cells #[.int .i8 a0_0, .int .i8 a0_1, .int .i8 a0_2, .int .i8 a0_3, .int .i8 a0_4, .int .i8 a0_5, .int .i8 a0_6, .int .i8 a0_7, .int .i8 a0_8, .int .i8 a0_9, .int .i8 a0_10, .int .i8 a0_11, .int .i8 a0_12, .int .i8 a0_13, .int .i8 a0_14, .int .i8 a0_15, .int .i8 a0_16, .int .i8 a0_17, .int .i8 a0_18, .int .i8 a0_19, .int .i8 a0_20, .int .i8 a0_21, .int .i8 a0_22, .int .i8 a0_23, .int .i8 a0_24, .int .i8 a0_25, .int .i8 a0_26, .int .i8 a0_27, .slice A0_28 l0_28.length c0_28] 26 (0, 0)) (by (with_reducible repeat (first | refine blk_drewN ?_ _ | refine blk_drew ?_ | refine blk_alloc ?_ _)); exact BK770.out) hb)
              have n5_ := Aside0.mk (blk_below (g := gb838) (o := .cells #[.int .i8 t807, .int .i8 t808, .int .i8 t809, .int .i8 t810, .int .i8 t811, .int .i8 t812, .int .i8 t813, .int .i8 t814, .int .i8 t815, .int .i8 t816, .int .i8 t817, .int .i8 t818, .int .i8 t819, .int .i8 t820, .int .i8 t821, .int .i8 t822, .int .i8 t823, .int .i8 t824, .int .i8 t825, .int .i8 t826, .int .i8 t827, .int .i8 t828, .int .i8 t829, .int .i8 t830, .int .i8 t831, .int .i8 t832, .int .i8 t833, .int .i8 t834, .slice Ao22 t835.length co22] 32 (0, 0)) (by (with_reducible repeat (first | refine blk_drewN ?_ _ | refine blk_drew ?_ | refine blk_alloc ?_ _)); exact BK838.out) hb)
              have n6_ := Aside0.mk (below_step (by repeat (first | (with_reducible first | exact HB.out | apply below_alloc | apply pw_below_drewN | apply below_drew1 | refine below_set ?_ GE770.out | refine below_set ?_ GE838.out) | exact HB.out)) hb)
              clear HO_8
              clear HO_11
              clear HO_839028
              clear BK770
              clear BK838
              clear HB
              have HO_8 := n0_
              have HO_11 := n1_
              have HO_839028 := n2_
              have HO874 := n3_
              have BK770 := n4_
              have BK838 := n5_
              have HB := n6_
              clear n0_ n1_ n2_ n3_ n4_ n5_ n6_
              (try clear hb)
              (try clear hb2)
              (try clear hk)
              (try clear hi)
              (try clear ho0)
              obtain ⟨Ao78, co78, eo78⟩ := Kd.R_slice HO874.out
              (first | subst eo78 | (injection eo78 with f1_ f2_ f3_; have f4_ := f1_.symm; have f5_ := f3_.symm; clear f1_ f2_ f3_; subst f4_; subst f5_))
              refine hK.out _ _ ⟨BK838.out, BK770.out⟩ (fun hHeld => ?_)
              clear hK K
              refine norm_ (a' := ?_) ?_ ?_
              rotate_left
              · show Act.put _ (some 54) _ = _
                simp only [Act.put, List.setIfInBounds_toArray, List.set_cons_zero, List.set_cons_succ, i64_w, i32_w, u8_w_]
                rfl
              refine one_ (i := 3) (N := some 55) #[true, true, true, true, false] rfl rfl (by kernel_rfl) (by decide) (fun K hK => ?_)
              refine goes_ Tryd.func22 (by kernel_rfl) rfl #[.agg #[.int .i8 t807, .int .i8 t808, .int .i8 t809, .int .i8 t810, .int .i8 t811, .int .i8 t812, .int .i8 t813, .int .i8 t814, .int .i8 t815, .int .i8 t816, .int .i8 t817, .int .i8 t818, .int .i8 t819, .int .i8 t820, .int .i8 t821, .int .i8 t822, .int .i8 t823, .int .i8 t824, .int .i8 t825, .int .i8 t826, .int .i8 t827, .int .i8 t828, .int .i8 t829, .int .i8 t830, .int .i8 t831, .int .i8 t832, .int .i8 t833, .int .i8 t834, .slice Ao22 t835.length co22], .agg #[.int .i8 t844, .int .i8 t845, .int .i8 t846, .int .i8 t847, .int .i8 t848, .int .i8 t849, .int .i8 t850, .int .i8 t851, .int .i8 t852, .int .i8 t853, .int .i8 t854, .int .i8 t855, .int .i8 t856, .int .i8 t857, .int .i8 t858, .int .i8 t859, .int .i8 t860, .int .i8 t861, .int .i8 t862, .int .i8 t863, .int .i8 t864, .int .i8 t865, .int .i8 t866, .int .i8 t867, .int .i8 t868, .int .i8 t869, .int .i8 t870, .int .i8 t871, .slice Ao78 t872.length co78]] (by rfl) rfl rfl (by (try simp only [List.map_toArray, List.map_cons, List.map_nil]); first | done | rfl | (simp only [List.length_drop, List.length_take]; rfl)) ?_
              with_reducible refine (laws_eqFace.calls t807 t808 t809 t810 t811 t812 t813 t814 t815 t816 t817 t818 t819 t820 t821 t822 t823 t824 t825 t826 t827 t828 t829 t830 t831 t832 t833 t834 _ _ t835 t844 t845 t846 t847 t848 t849 t850 t851 t852 t853 t854 t855 t856 t857 t858 t859 t860 t861 t862 t863 t864 t865 t866 t867 t868 t869 t870 t871 _ _ t872 false _ ?side1 ?side2 ?side3 ?side4 A33.out).mono ?_
              (case side1 => repeat (first | exact (Kd.R_reads' HO_839028.out).2.2 | (with_reducible refine Kd.C_alloc ?_ _) | (with_reducible refine Kd.C_drewN ?_ _) | (with_reducible refine Kd.C_drew ?_)))
              (case side2 => exact (Kd.R_reads' HO_839028.out).2.1)
              (case side3 => repeat (first | exact (Kd.R_reads' HO874.out).2.2 | (with_reducible refine Kd.C_alloc ?_ _) | (with_reducible refine Kd.C_drewN ?_ _) | (with_reducible refine Kd.C_drew ?_)))
              (case side4 => exact (Kd.R_reads' HO874.out).2.1)
              rintro e w79 ⟨rfl, hb⟩
              refine ⟨_, rfl, ?_⟩
              have n0_ := Aside0.mk (Kd.R_below (by (with_reducible repeat (first | apply Kd.R_alloc | apply Kd.R_drewN | apply Kd.R_drew)); exact HO_8.out) hb)
              have n1_ := Aside0.mk (Kd.R_below (by (with_reducible repeat (first | apply Kd.R_alloc | apply Kd.R_drewN | apply Kd.R_drew)); exact HO_11.out) hb)
              have n2_ := Aside0.mk (Kd.R_below (by (with_reducible repeat (first | apply Kd.R_alloc | apply Kd.R_drewN | apply Kd.R_drew)); exact HO_839028.out) hb)
              have n3_ := Aside0.mk (Kd.R_below (by (with_reducible repeat (first | apply Kd.R_alloc | apply Kd.R_drewN | apply Kd.R_drew)); exact HO874.out) hb)
              have n4_ := Aside0.mk (blk_below (g := gb770) (o := .cells #[.int .i8 a0_0, .int .i8 a0_1, .int .i8 a0_2, .int .i8 a0_3, .int .i8 a0_4, .int .i8 a0_5, .int .i8 a0_6, .int .i8 a0_7, .int .i8 a0_8, .int .i8 a0_9, .int .i8 a0_10, .int .i8 a0_11, .int .i8 a0_12, .int .i8 a0_13, .int .i8 a0_14, .int .i8 a0_15, .int .i8 a0_16, .int .i8 a0_17, .int .i8 a0_18, .int .i8 a0_19, .int .i8 a0_20, .int .i8 a0_21, .int .i8 a0_22, .int .i8 a0_23, .int .i8 a0_24, .int .i8 a0_25, .int .i8 a0_26, .int .i8 a0_27, .slice A0_28 l0_28.length c0_28] 26 (0, 0)) (by (with_reducible repeat (first | refine blk_drewN ?_ _ | refine blk_drew ?_ | refine blk_alloc ?_ _)); exact BK770.out) hb)
              have n5_ := Aside0.mk (blk_below (g := gb838) (o := .cells #[.int .i8 t807, .int .i8 t808, .int .i8 t809, .int .i8 t810, .int .i8 t811, .int .i8 t812, .int .i8 t813, .int .i8 t814, .int .i8 t815, .int .i8 t816, .int .i8 t817, .int .i8 t818, .int .i8 t819, .int .i8 t820, .int .i8 t821, .int .i8 t822, .int .i8 t823, .int .i8 t824, .int .i8 t825, .int .i8 t826, .int .i8 t827, .int .i8 t828, .int .i8 t829, .int .i8 t830, .int .i8 t831, .int .i8 t832, .int .i8 t833, .int .i8 t834, .slice Ao22 t835.length co22] 32 (0, 0)) (by (with_reducible repeat (first | refine blk_drewN ?_ _ | refine blk_drew ?_ | refine blk_alloc ?_ _)); exact BK838.out) hb)
              have n6_ := Aside0.mk (below_step (by repeat (first | (with_reducible first | exact HB.out | apply below_alloc | apply pw_below_drewN | apply below_drew1 | refine below_set ?_ GE770.out | refine below_set ?_ GE838.out) | exact HB.out)) hb)
              clear HO_8
              clear HO_11
              clear HO_839028
              clear HO874
              clear BK770
              clear BK838
              clear HB
              have HO_8 := n0_
              have HO_11 := n1_
              have HO_839028 := n2_
              have HO874 := n3_
              have BK770 := n4_
              have BK838 := n5_
              have HB := n6_
              clear n0_ n1_ n2_ n3_ n4_ n5_ n6_
              (try clear hb)
              (try clear hb2)
              (try clear hk)
              (try clear hi)
              refine hK.out _ _ ⟨BK838.out, BK770.out⟩ (fun hHeld => ?_)
              clear hK K
              refine norm_ (a' := ?_) ?_ ?_
              rotate_left
              · show Act.put _ (some 55) _ = _
                simp only [Act.put, List.setIfInBounds_toArray, List.set_cons_zero, List.set_cons_succ, i64_w, i32_w, u8_w_]
                rfl
              refine pure_ (i := 4) (N := some 56) (v := ?_) (a' := ?_) #[true, true, true, true, true] rfl rfl (by kernel_rfl) (fun _ _ _ h => h) (Or.inl ⟨by rfl, ?_⟩) ?_ ?_
              rotate_left
              · intro w'
                go_simp
                with_reducible rfl
              rotate_left
              · simp only [Act.put, List.setIfInBounds_toArray, List.set_cons_zero, List.set_cons_succ, i64_w, i32_w, u8_w_]
                rfl
              refine done_ (by kernel_rfl) ?_
              try go_wp2
              go_ret
              exact ⟨by first | rfl | (simp [errW_none, errW_some] <;> rfl) | (simp [*, errW_none, errW_some] <;> rfl), by repeat (first | (with_reducible first | exact HB.out | apply below_alloc | apply pw_below_drewN | apply below_drew1 | refine below_set ?_ GE770.out | refine below_set ?_ GE838.out) | exact HB.out)⟩
end Go.Proofs.YticjkfacdmmopaaDoor.Q
namespace Go.Proofs.YticjkfacdmmopaaDoor.Pure
open Go.RowKit Go.Proofs.YticjkfacdmmopaaDoor.Ext Go.Proofs.YticjkfacdmmopaaDoor.Q Go.Proofs.YticjkfacdmmopaaDoor.Txt Go.Proofs.YticjkfacdmmopaaDoor.Face Go.Proofs.YticjkfacdmmopaaDoorW.PrintWords Go.Proofs.YticjkfacdmmopaaDoorW.PrintLast Go.Proofs.YticjkfacdmmopaaDoorW.PrintMore
set_option linter.unusedVariables false
set_option linter.unusedSimpArgs false
set_option maxRecDepth 100000
def blank (L : List Int) (left : Int) (n k : Nat) : Int := rd L 26 + left.tdiv n + (if (k : Int) < left.tmod n then 1 else 0)
theorem blanks_eq (L : List Int) (left : Int) (n : Nat) : blanks L left n = (List.range' 0 n).map (blank L left n) := by
  rw [← List.range_eq_range']
  rfl
theorem tdiv_in {x : Int} {n : Nat} (h0 : 0 ≤ x) (h1 : x ≤ 100000) : 0 ≤ x.tdiv n ∧ x.tdiv n ≤ 100000 := by
  rw [Int.tdiv_eq_ediv_of_nonneg h0]
  refine ⟨Int.ediv_nonneg h0 (Int.natCast_nonneg n), ?_⟩
  exact Int.le_trans (Int.ediv_le_self _ h0) h1
theorem ijust_l0 {L : List Int} {P : List Pr} (F : FaceOk L P) (left : Int) (n : Nat) (hn : n ≤ 60) (h0 : 0 ≤ left) (h1 : left ≤ 100000) : ∀ (d k i : Nat) (acc : List Int), i + d = n → d < k → acc.length ≤ i →
    impl_JustifyLine.l0 k left n acc n i (rd L 0) (rd L 1) (rd L 2) (rd L 3) (rd L 4) (rd L 5) (rd L 6) (rd L 7) (rd L 8) (rd L 9) (rd L 10) (rd L 11) (rd L 12) (rd L 13) (rd L 14) (rd L 15) (rd L 16) (rd L 17) (rd L 18) (rd L 19) (rd L 20) (rd L 21) (rd L 22) (rd L 23) (rd L 24) (rd L 25) (rd L 26) (rd L 27) P = some (acc ++ (List.range' i d).map (blank L left n), 0)
  | 0, k, i, acc, hd, hk, ha => by
    obtain ⟨k, rfl⟩ := some_k hk
    rw [impl_JustifyLine.l0, if_neg (by omega)]
    simp
  | d + 1, k, i, acc, hd, hk, ha => by
    obtain ⟨k, rfl⟩ := some_k hk
    have hsp := face_sp F.shape
    have ht := tdiv_in (n := n) h0 h1
    have hb : impl_bit.f (decide ((i : Int) < left.tmod n)) = some (if (i : Int) < left.tmod n then 1 else 0) := by
      unfold impl_bit.f
      by_cases h : (i : Int) < left.tmod n
      · rw [if_pos (by simpa using h), if_pos h]
      · rw [if_neg (by simpa using h), if_neg h]
    have hbit : (0 : Int) ≤ (if (i : Int) < left.tmod n then 1 else 0) ∧ (if (i : Int) < left.tmod n then (1 : Int) else 0) ≤ 1 := by split <;> omega
    rw [impl_JustifyLine.l0, if_pos (by omega), if_neg (by omega), hb, Option.bind_some, if_pos (by omega), wrap_succ i (by omega), w64 (x := rd L 26) (by omega) (by omega), w64 (x := left.tdiv n) (by omega) (by omega), w64 (x := rd L 26 + left.tdiv n) (by omega) (by omega), w64 (x := rd L 26 + left.tdiv n + _) (by omega) (by omega)]
    rw [ijust_l0 F left n hn h0 h1 d k (i + 1) _ (by omega) (by omega) (by rw [List.length_append, List.length_singleton]; omega), List.range'_succ, List.map_cons, List.append_assoc]
    rfl
theorem sjust_l0 {L : List Int} {P : List Pr} (F : FaceOk L P) (left : Int) (n : Nat) (hn : n ≤ 60) (h0 : 0 ≤ left) (h1 : left ≤ 100000) : ∀ (d k i : Nat) (acc : List Int), i + d = n → d < k → acc.length ≤ i →
    spec_JustifyLine.l0 k left n acc i (rd L 0) (rd L 1) (rd L 2) (rd L 3) (rd L 4) (rd L 5) (rd L 6) (rd L 7) (rd L 8) (rd L 9) (rd L 10) (rd L 11) (rd L 12) (rd L 13) (rd L 14) (rd L 15) (rd L 16) (rd L 17) (rd L 18) (rd L 19) (rd L 20) (rd L 21) (rd L 22) (rd L 23) (rd L 24) (rd L 25) (rd L 26) (rd L 27) P = some (acc ++ (List.range' i d).map (blank L left n), 0)
  | 0, k, i, acc, hd, hk, ha => by
    obtain ⟨k, rfl⟩ := some_k hk
    rw [spec_JustifyLine.l0, if_neg (by omega)]
    simp
  | d + 1, k, i, acc, hd, hk, ha => by
    obtain ⟨k, rfl⟩ := some_k hk
    have hsp := face_sp F.shape
    have ht := tdiv_in (n := n) h0 h1
    have ih := fun x => sjust_l0 F left n hn h0 h1 d k (i + 1) (acc ++ [x]) (by omega) (by omega) (by rw [List.length_append, List.length_singleton]; omega)
    rw [spec_JustifyLine.l0, if_pos (by omega), if_neg (by omega), wrap_succ i (by omega), w64 (x := rd L 26) (by omega) (by omega), w64 (x := left.tdiv n) (by omega) (by omega), w64 (x := rd L 26 + left.tdiv n) (by omega) (by omega), w64 (x := rd L 26 + left.tdiv n + 1) (by omega) (by omega), List.range'_succ, List.map_cons]
    by_cases h : (i : Int) < left.tmod n
    · rw [if_pos h, if_pos (by omega), ih, List.append_assoc, blank, if_pos h]
      rfl
    · rw [if_neg h, if_pos (by omega), ih, List.append_assoc, blank, if_neg h, Int.add_zero]
      rfl
theorem count_eq (s : ByteArray) : strings_Count.f s (⟨#[32]⟩ : ByteArray) = some ((s.data.toList.count 32 : Nat) : Int) := by
  unfold strings_Count.f
  rw [if_pos rfl]
  rfl
theorem impl_JustifyLine_eq {L : List Int} {P : List Pr} (hl : L.length = 28) (hr : rngB L P = true) (s : ByteArray) (n : Int) {k : Nat} (hk : 140 < k) : impl_JustifyLine.f k (rd L 0) (rd L 1) (rd L 2) (rd L 3) (rd L 4) (rd L 5) (rd L 6) (rd L 7) (rd L 8) (rd L 9) (rd L 10) (rd L 11) (rd L 12) (rd L 13) (rd L 14) (rd L 15) (rd L 16) (rd L 17) (rd L 18) (rd L 19) (rd L 20) (rd L 21) (rd L 22) (rd L 23) (rd L 24) (rd L 25) (rd L 26) (rd L 27) P s n = some (justifyLineC L P s n) := by
  obtain ⟨k, rfl⟩ := some_k hk
  unfold impl_JustifyLine.f justifyLineC
  rw [wideCode_eq hl hr s n (by omega), Option.bind_some]
  by_cases hz : wideC L P s n = 0
  · obtain ⟨hf, ht, h0, h1⟩ := wideC_zero hz
    have F := faceOk hl hr hf
    have hb := line_room F ht
    have hsz := txt_size ht
    have hc : s.data.toList.count 32 ≤ 60 := by have := List.count_le_length (a := (32 : UInt8)) (l := s.data.toList); have h3 : s.data.toList.length = s.size := data_length s; omega
    rw [if_pos hz, if_pos hz, fwide_eq F s (txt_size ht) (txt_ok ht) hk, Option.bind_some, count_eq, Option.bind_some, w64 (x := n - lineOf L P s.data.toList) (by omega) (by omega)]
    by_cases h : n - lineOf L P s.data.toList < 0
    · rw [if_pos h, if_pos (.inl h), impl_JustifyLine.j0, if_pos rfl]
    · rw [if_neg h, impl_JustifyLine.j0]
      by_cases hc0 : s.data.toList.count 32 = 0
      · rw [if_pos (by rw [hc0]; rfl), if_pos (.inr hc0)]
      · rw [if_neg (by simpa using hc0), if_neg (by rintro (hh | hh); exact h hh; exact hc0 hh)]
        have := ijust_l0 F (n - lineOf L P s.data.toList) (s.data.toList.count 32) hc (by omega) (by omega) (s.data.toList.count 32) k 0 [] (by omega) (by omega) (by simp)
        rw [show ((0 : Nat) : Int) = 0 from rfl] at this
        rw [this, blanks_eq, List.nil_append]
  · rw [if_neg hz, if_neg hz]
theorem words_count (t : List UInt8) : ((words t).length : Int) - 1 < 1 ↔ t.count 32 = 0 := by
  unfold words
  by_cases h : t = []
  · rw [if_pos h, h]; simp
  · rw [if_neg h, spl_len]; omega
theorem spec_JustifyLine_eq {L : List Int} {P : List Pr} (hl : L.length = 28) (hr : rngB L P = true) (s : ByteArray) (hs : s.size ≤ 1048576) (n : Int) {k : Nat} (hk : 1048577 < k) : spec_JustifyLine.f k (rd L 0) (rd L 1) (rd L 2) (rd L 3) (rd L 4) (rd L 5) (rd L 6) (rd L 7) (rd L 8) (rd L 9) (rd L 10) (rd L 11) (rd L 12) (rd L 13) (rd L 14) (rd L 15) (rd L 16) (rd L 17) (rd L 18) (rd L 19) (rd L 20) (rd L 21) (rd L 22) (rd L 23) (rd L 24) (rd L 25) (rd L 26) (rd L 27) P s n = some (justifyLineC L P s n) := by
  obtain ⟨k, rfl⟩ := some_k hk
  unfold spec_JustifyLine.f justifyLineC
  rw [room_eq, Option.bind_some, asked_wide hl hr s hs n hk, Option.bind_some]
  by_cases hz : wideC L P s n = 0
  · obtain ⟨hf, ht, h0, h1⟩ := wideC_zero hz
    have F := faceOk hl hr hf
    have hb := line_room F ht
    have hsz := txt_size ht
    have h3 : s.data.toList.length = s.size := data_length s
    have hc : s.data.toList.count 32 ≤ 60 := by have := List.count_le_length (a := (32 : UInt8)) (l := s.data.toList); omega
    have hwl := words_len s.data.toList (by omega)
    rw [if_pos hz, if_pos hz, words_eq s (txt_size ht) (by omega), Option.bind_some, line_eq F s (txt_size ht) (txt_ok ht) (by omega), Option.bind_some, w64 (x := n - lineOf L P s.data.toList) (by omega) (by omega), List.length_map, w64 (x := ((words s.data.toList).length : Int) - 1) (by omega) (by omega)]
    by_cases h : n - lineOf L P s.data.toList < 0
    · rw [if_pos h, if_pos (.inl h), spec_JustifyLine.j0, if_pos rfl]
    · rw [if_neg h, spec_JustifyLine.j0]
      by_cases hc0 : s.data.toList.count 32 = 0
      · rw [if_pos (by simpa using (words_count _).2 hc0), if_pos (.inr hc0)]
      · have hne : s.data.toList ≠ [] := by intro hh; rw [hh] at hc0; exact hc0 rfl
        have hwc : ((words s.data.toList).length : Int) - 1 = ((s.data.toList.count 32 : Nat) : Int) := by unfold words; rw [if_neg hne, spl_len]; omega
        rw [if_neg (by rw [decide_eq_true_eq]; exact fun hh => hc0 ((words_count _).1 hh)), if_neg (by rintro (hh | hh); exact h hh; exact hc0 hh), hwc]
        have := sjust_l0 F (n - lineOf L P s.data.toList) (s.data.toList.count 32) hc (by omega) (by omega) (s.data.toList.count 32) k 0 [] (by omega) (by omega) (by simp)
        rw [show ((0 : Nat) : Int) = 0 from rfl] at this
        rw [this, blanks_eq, List.nil_append]
  · rw [if_neg hz, if_neg hz]
theorem justifyLineC_len (L : List Int) (P : List Pr) (s : ByteArray) (n : Int) : (justifyLineC L P s n).1.length ≤ 60 := by
  unfold justifyLineC
  split
  · rename_i hz
    obtain ⟨hf, ht, h0, h1⟩ := wideC_zero hz
    have hsz := txt_size ht
    have h3 : s.data.toList.length = s.size := data_length s
    have hc : s.data.toList.count 32 ≤ 60 := by have := List.count_le_length (a := (32 : UInt8)) (l := s.data.toList); omega
    split
    · simp
    · simp only [blanks, List.length_map, List.length_range]; omega
  · simp
theorem justifyLine_law (L : List Int) (hl : L.length = 28) (lp : List LP) (hlp : lp.length ≤ 9223372036854775807) (hr : rngB L (lp.map toP) = true) (s : ByteArray) (n : Int) (hn0 : -9223372036854775808 ≤ n) (hn1 : n ≤ 9223372036854775807) : ∃ k, laws_FnExactJustifyLine.f k (rd L 0) (rd L 1) (rd L 2) (rd L 3) (rd L 4) (rd L 5) (rd L 6) (rd L 7) (rd L 8) (rd L 9) (rd L 10) (rd L 11) (rd L 12) (rd L 13) (rd L 14) (rd L 15) (rd L 16) (rd L 17) (rd L 18) (rd L 19) (rd L 20) (rd L 21) (rd L 22) (rd L 23) (rd L 24) (rd L 25) (rd L 26) (rd L 27) lp s n = some true := by
  obtain ⟨K, hK⟩ : ∃ K, K = 2000000 := ⟨_, rfl⟩
  refine ⟨K + 3, ?_⟩
  unfold laws_FnExactJustifyLine.f
  by_cases h1 : s.size > 1048576
  · rw [if_pos (by omega)]
  rw [if_neg (by omega), szFace_eq L lp hlp, Option.bind_some]
  by_cases h2 : 1048576 < lp.length
  · rw [if_pos h2, if_pos (by omega)]
  rw [if_neg h2, if_neg (by omega)]
  have hlen := justifyLineC_len L (lp.map toP) s n
  have hs : ∀ k, 1048577 < k → spec_JustifyLine.f k (rd L 0) (rd L 1) (rd L 2) (rd L 3) (rd L 4) (rd L 5) (rd L 6) (rd L 7) (rd L 8) (rd L 9) (rd L 10) (rd L 11) (rd L 12) (rd L 13) (rd L 14) (rd L 15) (rd L 16) (rd L 17) (rd L 18) (rd L 19) (rd L 20) (rd L 21) (rd L 22) (rd L 23) (rd L 24) (rd L 25) (rd L 26) (rd L 27) (lp.map toP) s n = some (justifyLineC L (lp.map toP) s n) := fun k hk => spec_JustifyLine_eq hl hr s (by omega) n hk
  have hi : ∀ k, 140 < k → impl_JustifyLine.f k (rd L 0) (rd L 1) (rd L 2) (rd L 3) (rd L 4) (rd L 5) (rd L 6) (rd L 7) (rd L 8) (rd L 9) (rd L 10) (rd L 11) (rd L 12) (rd L 13) (rd L 14) (rd L 15) (rd L 16) (rd L 17) (rd L 18) (rd L 19) (rd L 20) (rd L 21) (rd L 22) (rd L 23) (rd L 24) (rd L 25) (rd L 26) (rd L 27) (lp.map toP) s n = some (justifyLineC L (lp.map toP) s n) := fun k hk => impl_JustifyLine_eq hl hr s n hk
  obtain ⟨x, hx, hx0⟩ := markFace_eq L (lp.map toP) (size_le (by omega : lp.length ≤ 1048576)) (by omega : 1048577 < K + 2)
  have ht := toFace_eq L lp (by omega)
  have he : ∀ k, 1048577 < k → laws_eqFace.f (rd L 0) (rd L 1) (rd L 2) (rd L 3) (rd L 4) (rd L 5) (rd L 6) (rd L 7) (rd L 8) (rd L 9) (rd L 10) (rd L 11) (rd L 12) (rd L 13) (rd L 14) (rd L 15) (rd L 16) (rd L 17) (rd L 18) (rd L 19) (rd L 20) (rd L 21) (rd L 22) (rd L 23) (rd L 24) (rd L 25) (rd L 26) (rd L 27) (lp.map toP) (rd L 0) (rd L 1) (rd L 2) (rd L 3) (rd L 4) (rd L 5) (rd L 6) (rd L 7) (rd L 8) (rd L 9) (rd L 10) (rd L 11) (rd L 12) (rd L 13) (rd L 14) (rd L 15) (rd L 16) (rd L 17) (rd L 18) (rd L 19) (rd L 20) (rd L 21) (rd L 22) (rd L 23) (rd L 24) (rd L 25) (rd L 26) (rd L 27) (lp.map toP) = some true := fun k hk => eqFace_self L _ (size_le (by omega)) hk
  rw [ht, Option.bind_some]
  dsimp only
  rw [hs _ (by omega), Option.bind_some, Option.bind_some]
  dsimp only
  rw [hi _ (by omega), Option.bind_some, eqInt64S_self (by omega) (by omega), Option.bind_some, if_pos rfl, bne_self_eq_false]
  rw [laws_FnExactJustifyLine.j0, if_neg (by simp), ht, Option.bind_some]
  dsimp only
  rw [he 2000000 (by omega), Option.bind_some, if_pos rfl, hx, Option.bind_some, if_neg hx0, eqInt64S_self (by omega) (by omega), Option.bind_some, if_pos rfl, bne_self_eq_false]
  rw [laws_FnExactJustifyLine.j1, if_neg (by simp), markInt64S_eq (by omega) (by omega) (by omega) (by omega), Option.bind_some]
  dsimp only
  rw [heldInt64S_eq (by omega) (by omega) (by omega) (by omega), Option.bind_some, if_neg (by omega), if_pos rfl, ht, Option.bind_some]
  dsimp only
  rw [hi _ (by omega), Option.bind_some, eqInt64S_self (by omega) (by omega), Option.bind_some, if_pos rfl, bne_self_eq_false]
  rw [laws_FnExactJustifyLine.j2, if_neg (by simp), heldInt64S_eq (by omega) (by omega) (by omega) (by omega), Option.bind_some, if_neg (by omega), if_pos rfl]
theorem faceV_all (L : List Int) (hl : L.length = 28) (A : Option Addr) (n c : Nat) : faceV L A n c = #[.int .i8 (rd L 0), .int .i8 (rd L 1), .int .i8 (rd L 2), .int .i8 (rd L 3), .int .i8 (rd L 4), .int .i8 (rd L 5), .int .i8 (rd L 6), .int .i8 (rd L 7), .int .i8 (rd L 8), .int .i8 (rd L 9), .int .i8 (rd L 10), .int .i8 (rd L 11), .int .i8 (rd L 12), .int .i8 (rd L 13), .int .i8 (rd L 14), .int .i8 (rd L 15), .int .i8 (rd L 16), .int .i8 (rd L 17), .int .i8 (rd L 18), .int .i8 (rd L 19), .int .i8 (rd L 20), .int .i8 (rd L 21), .int .i8 (rd L 22), .int .i8 (rd L 23), .int .i8 (rd L 24), .int .i8 (rd L 25), .int .i8 (rd L 26), .int .i8 (rd L 27), .slice A n c] := by
  have e : faceV [rd L 0, rd L 1, rd L 2, rd L 3, rd L 4, rd L 5, rd L 6, rd L 7, rd L 8, rd L 9, rd L 10, rd L 11, rd L 12, rd L 13, rd L 14, rd L 15, rd L 16, rd L 17, rd L 18, rd L 19, rd L 20, rd L 21, rd L 22, rd L 23, rd L 24, rd L 25, rd L 26, rd L 27] A n c = #[.int .i8 (rd L 0), .int .i8 (rd L 1), .int .i8 (rd L 2), .int .i8 (rd L 3), .int .i8 (rd L 4), .int .i8 (rd L 5), .int .i8 (rd L 6), .int .i8 (rd L 7), .int .i8 (rd L 8), .int .i8 (rd L 9), .int .i8 (rd L 10), .int .i8 (rd L 11), .int .i8 (rd L 12), .int .i8 (rd L 13), .int .i8 (rd L 14), .int .i8 (rd L 15), .int .i8 (rd L 16), .int .i8 (rd L 17), .int .i8 (rd L 18), .int .i8 (rd L 19), .int .i8 (rd L 20), .int .i8 (rd L 21), .int .i8 (rd L 22), .int .i8 (rd L 23), .int .i8 (rd L 24), .int .i8 (rd L 25), .int .i8 (rd L 26), .int .i8 (rd L 27), .slice A n c] := rfl
  rwa [all28 L hl] at e
theorem rng_of {L : List Int} {P : List LP} (hb : ∀ y ∈ L, -128 ≤ y ∧ y ≤ 127) (hp : ∀ p ∈ P, (0 ≤ p.f0 ∧ p.f0 ≤ 255) ∧ (0 ≤ p.f1 ∧ p.f1 ≤ 255) ∧ (-128 ≤ p.f2 ∧ p.f2 ≤ 127)) : rngB L (P.map toP) = true := by
  unfold rngB
  rw [Bool.and_eq_true, List.all_eq_true, List.all_eq_true]
  refine ⟨fun y hy => inB_iff.2 (hb y hy), fun p hq => ?_⟩
  rw [List.mem_map] at hq
  obtain ⟨q, hq, rfl⟩ := hq
  have h := hp q hq
  rw [Bool.and_eq_true, Bool.and_eq_true]
  exact ⟨⟨inB_iff.2 h.1, inB_iff.2 h.2.1⟩, inB_iff.2 h.2.2⟩
theorem wf_i64 {y : Int} (h : (Lit.int .i64 y).wf = true) : -9223372036854775808 ≤ y ∧ y ≤ 9223372036854775807 := by simpa [Lit.wf, IntKind.min, IntKind.max, IntKind.signed, IntKind.bits] using h
theorem justifyLine_walk (L : List Int) (hl : L.length = 28) (hb : ∀ y ∈ L, -128 ≤ y ∧ y ≤ 127) (A : Option Addr) (c : Nat) (P : List LP) (hc : P.length ≤ c) (hm : c ≤ maxLen) (hp : ∀ p ∈ P, (0 ≤ p.f0 ∧ p.f0 ≤ 255) ∧ (0 ≤ p.f1 ∧ p.f1 ≤ 255) ∧ (-128 ≤ p.f2 ∧ p.f2 ≤ 127)) (s0 : ByteArray) (n1 : Int) (g1 : -9223372036854775808 ≤ n1) (h1 : n1 ≤ 9223372036854775807) (w : World) (hr : Kd.C kLP w A P.length P) (hM : GlobM w) :
    Calls Tryd.prog 7 #[.agg (faceV L A P.length c), .string s0, .int .i64 n1] w fun e w' => e = .returned (.bool true) ∧ Below w.heap.size w w' := by
  obtain ⟨k, hk⟩ := justifyLine_law L hl P (by unfold maxLen at hm; omega) (rng_of hb hp) s0 n1 g1 h1
  have h := laws_FnExactJustifyLine.calls k (rd L 0) (rd L 1) (rd L 2) (rd L 3) (rd L 4) (rd L 5) (rd L 6) (rd L 7) (rd L 8) (rd L 9) (rd L 10) (rd L 11) (rd L 12) (rd L 13) (rd L 14) (rd L 15) (rd L 16) (rd L 17) (rd L 18) (rd L 19) (rd L 20) (rd L 21) (rd L 22) (rd L 23) (rd L 24) (rd L 25) (rd L 26) (rd L 27) A c P s0 n1 true w hr hc hM hk
  rw [faceV_all L hl A P.length c]
  exact h
end Go.Proofs.YticjkfacdmmopaaDoor.Pure
namespace Go.Proofs.YticjkfacdmmopaaDoor.Open
open Go.ChangeShapes Go.WideShapes Go.ChangeAt Go.RowKit Go.Deep Go.Proofs.YticjkfacdmmopaaDoor.Ext Go.Proofs.YticjkfacdmmopaaDoor.Face Go.Proofs.YticjkfacdmmopaaDoorW.PrintWords
set_option linter.unusedVariables false
set_option linter.unusedSimpArgs false
variable {H : Type} {enc : TypeId × Value → H} {P : Program} {w : World} {spare : Nat → Bool} {held : Bool} {t : TypeId}
instance : Inhabited LP := ⟨⟨0, 0, 0⟩⟩
theorem open_pairs {t e : TypeId} {f0 f1 f2 : Field} {fuel : Nat} {cs : List Value} {x : DataW H × List MemPlace} (ht : P.underlying t = some (.slice e)) (he : P.underlying e = some (.struct #[f0, f1, f2])) (ce : P.cellsOf e = 3) (o0 : f0.offset = 0) (o1 : f1.offset = 1) (o2 : f2.offset = 2) (c0 : P.cellsOf f0.type = 1) (c1 : P.cellsOf f1.type = 1) (c2 : P.cellsOf f2.type = 1)
    (u0 : P.underlying f0.type = some (.int .u8)) (u1 : P.underlying f1.type = some (.int .u8)) (u2 : P.underlying f2.type = some (.int .i8))
    (h : DataW.trod enc P w 0 spare held fuel t cs = some x) :
    ∃ (A : Option Addr) (c : Nat) (ps : List LP), cs = [.slice A ps.length c] ∧ ps.length ≤ c ∧ c ≤ maxLen ∧ Kd.C kLP w A ps.length ps ∧ ∀ p ∈ ps, (0 ≤ p.f0 ∧ p.f0 ≤ 255) ∧ (0 ≤ p.f1 ∧ p.f1 ≤ 255) ∧ (-128 ≤ p.f2 ∧ p.f2 ≤ 127) := by
  rcases open_slice ht h with ⟨rfl, _⟩ | ⟨a, len, cap, m, n, D, Pl, rfl, hb, hl, hm, hmm, rfl, hx⟩
  · exact ⟨none, 0, [], rfl, Nat.le_refl _, Nat.zero_le _, ⟨rfl, by simp, fun hp => absurd hp (by simp)⟩, by simp⟩
  have hlm : len ≤ m := by rw [hmm]; split <;> omega
  have each : ∀ i, i < len → ∃ q : LP, (w.cell? (a.add (i * 3)) = some (.int .u8 q.f0) ∧ w.cell? (a.add (i * 3 + 1)) = some (.int .u8 q.f1) ∧ w.cell? (a.add (i * 3 + 2)) = some (.int .i8 q.f2)) ∧ (0 ≤ q.f0 ∧ q.f0 ≤ 255) ∧ (0 ≤ q.f1 ∧ q.f1 ≤ 255) ∧ (-128 ≤ q.f2 ∧ q.f2 ≤ 127) := by
    intro i hi
    obtain ⟨cs', h1, h2⟩ := hx i (by omega)
    rw [ce] at h1
    obtain ⟨_, hlen, hcell⟩ := World.cells?_some h1
    obtain ⟨xs, k, hk, hxy, _, hxl, hf⟩ := DataW.trod_struct he h2
    match xs, hxl, cs', hlen with
    | [y0, y1, y2], _, [v0, v1, v2], _ =>
      have g0 := hf 0 f0 rfl
      have g1 := hf 1 f1 rfl
      have g2 := hf 2 f2 rfl
      simp [o0, o1, o2, c0, c1, c2] at g0 g1 g2
      obtain ⟨z0, q0, _, w0⟩ := DataW.trod_int u0 g0
      obtain ⟨z1, q1, _, w1⟩ := DataW.trod_int u1 g1
      obtain ⟨z2, q2, _, w2⟩ := DataW.trod_int u2 g2
      obtain rfl : v0 = .int .u8 z0 := by simpa using q0
      obtain rfl : v1 = .int .u8 z1 := by simpa using q1
      obtain rfl : v2 = .int .i8 z2 := by simpa using q2
      have e0 := hcell 0 (by omega)
      have e1 := hcell 1 (by omega)
      have e2 := hcell 2 (by omega)
      rw [Deep.add_add] at e0 e1 e2
      exact ⟨⟨z0, z1, z2⟩, ⟨by simpa using e0, by simpa using e1, by simpa using e2⟩, wf_u8 w0, wf_u8 w1, wf_i8 w2⟩
  obtain ⟨q, hq⟩ := choose_lt each
  refine ⟨some a, cap, (List.range len).map q, by simp, by simpa using hl, hm, ⟨by simp, by simp; unfold maxLen at hm; omega, fun hp => ⟨a, rfl, fun j p hj => ?_⟩⟩, ?_⟩
  · obtain ⟨hlt, rfl⟩ := List.getElem?_eq_some_iff.1 hj
    have hjl : j < len := by simpa using hlt
    obtain ⟨⟨h0, h1, h2⟩, _⟩ := hq j hjl
    refine ⟨[.int .u8 (q j).f0, .int .u8 (q j).f1, .int .i8 (q j).f2], rfl, by simpa using kLP_mk w (q j), fun i u hi => ?_⟩
    match i, hi with
    | 0, hi => simp at hi; subst hi; exact h0
    | 1, hi => simp at hi; subst hi; exact h1
    | 2, hi => simp at hi; subst hi; exact h2
  · intro p hp
    rw [List.mem_map] at hp
    obtain ⟨j, hj, rfl⟩ := hp
    exact (hq j (by simpa using hj)).2
theorem open_face {r : Reach} {b0 : Nat} {f0 f1 f2 f3 : Field} {g0 g1 g2 : Field} {e ep : TypeId} {v : Value} {d : DataW H} {p : List MemPlace} (ht : P.underlying t = some (.struct #[f0, f1, f2, f3])) (h0 : P.underlying f0.type = some (.array 26 e)) (he : P.underlying e = some (.int .i8))
    (hc : P.cellsOf e = 1) (hn : P.cellsOf f0.type = 26) (h1 : P.underlying f1.type = some (.int .i8)) (h2 : P.underlying f2.type = some (.int .i8)) (h3 : P.underlying f3.type = some (.slice ep)) (o0 : f0.offset = 0) (o1 : f1.offset = 26) (o2 : f2.offset = 27) (o3 : f3.offset = 28)
    (c1 : P.cellsOf f1.type = 1) (c2 : P.cellsOf f2.type = 1) (c3 : P.cellsOf f3.type = 1) (hC : P.cellsOf t = 29)
    (hep : P.underlying ep = some (.struct #[g0, g1, g2])) (ce : P.cellsOf ep = 3) (p0 : g0.offset = 0) (p1 : g1.offset = 1) (p2 : g2.offset = 2) (d0 : P.cellsOf g0.type = 1) (d1 : P.cellsOf g1.type = 1) (d2 : P.cellsOf g2.type = 1)
    (u0 : P.underlying g0.type = some (.int .u8)) (u1 : P.underlying g1.type = some (.int .u8)) (u2 : P.underlying g2.type = some (.int .i8))
    (hv : Value.okWide P w r b0 t v) (h : DataW.Trod enc P w 0 spare held t v d p) :
    ∃ (l : List Int) (A : Option Addr) (c : Nat) (ps : List LP), v = .agg (faceV l A ps.length c) ∧ l.length = 28 ∧ (∀ y ∈ l, -128 ≤ y ∧ y ≤ 127) ∧ ps.length ≤ c ∧ c ≤ maxLen ∧ Kd.C kLP w A ps.length ps ∧ ∀ p ∈ ps, (0 ≤ p.f0 ∧ p.f0 ≤ 255) ∧ (0 ≤ p.f1 ∧ p.f1 ≤ 255) ∧ (-128 ≤ p.f2 ∧ p.f2 ≤ 127) := by
  obtain ⟨cs, rfl, _⟩ := okWide_struct ht hv
  obtain ⟨fuel, hf⟩ := h
  obtain ⟨xs, m, _, _, hl, hxs, hi⟩ := DataW.trod_struct ht hf
  have hlen : xs.length = 4 := by simpa using hxs
  rw [hC] at hl
  have get : ∀ i, i < 4 → ∃ z, xs[i]? = some z := fun i hi' => ⟨xs[i]'(by omega), List.getElem?_eq_getElem (by omega)⟩
  have e0 := hi 0 f0 rfl
  have e1 := hi 1 f1 rfl
  have e2 := hi 2 f2 rfl
  have e3 := hi 3 f3 rfl
  obtain ⟨z0, hz0⟩ := get 0 (by omega)
  obtain ⟨z1, hz1⟩ := get 1 (by omega)
  obtain ⟨z2, hz2⟩ := get 2 (by omega)
  obtain ⟨z3, hz3⟩ := get 3 (by omega)
  rw [hz0, o0, hn, List.drop_zero] at e0
  rw [hz1, o1, c1] at e1
  rw [hz2, o2, c2] at e2
  rw [hz3, o3, c3] at e3
  obtain ⟨l, q1, q2, q3⟩ := arr_list h0 he hc hn e0
  obtain ⟨a, a1, _, a3⟩ := DataW.trod_int h1 e1
  obtain ⟨b, b1, _, b3⟩ := DataW.trod_int h2 e2
  obtain ⟨A, c, ps, s1, s2, s3, s4, s5⟩ := open_pairs h3 hep ce p0 p1 p2 d0 d1 d2 u0 u1 u2 e3
  refine ⟨l ++ [a, b], A, c, ps, ?_, by simp [q2], ?_, s2, s3, s4, s5⟩
  · have e : nums .i8 (l ++ [a, b]) ++ [.slice A ps.length c] = (Value.agg cs).cells.toList := by
      rw [nums_append, ← q1]
      have : nums .i8 [a, b] = [.int .i8 a] ++ [.int .i8 b] := rfl
      rw [this, ← a1, ← b1, ← s1]
      generalize (Value.agg cs).cells.toList = L at *
      apply List.ext_getElem?
      intro i
      simp only [List.getElem?_append, List.length_append, List.length_take, List.length_drop, List.getElem?_take, List.getElem?_drop]
      by_cases h1 : i < 26
      · rw [if_pos (by omega), if_pos (by omega), if_pos h1]
      · by_cases h2 : i = 26
        · subst h2
          rw [if_pos (by omega), if_neg (by omega), if_pos (by omega), if_pos (by omega)]
          congr 1; omega
        · by_cases h3 : i = 27
          · subst h3
            rw [if_pos (by omega), if_neg (by omega), if_neg (by omega), if_pos (by omega)]
            congr 1; omega
          · rw [if_neg (by omega)]
            by_cases h4 : i = 28
            · subst h4
              rw [if_pos (by omega)]
              congr 1; omega
            · rw [if_neg (by omega), List.getElem?_eq_none (by omega)]
    unfold faceV
    congr 1
    apply Array.toList_inj.1
    rw [Array.toList_push]
    show cs.toList = nums .i8 (l ++ [a, b]) ++ _
    rw [e]
    simp [Value.cells]
  · intro y hy
    rw [List.mem_append] at hy
    rcases hy with hy | hy
    · exact wf_i8 (q3 y hy)
    · simp at hy
      rcases hy with rfl | rfl
      · exact wf_i8 a3
      · exact wf_i8 b3
end Go.Proofs.YticjkfacdmmopaaDoor.Open
