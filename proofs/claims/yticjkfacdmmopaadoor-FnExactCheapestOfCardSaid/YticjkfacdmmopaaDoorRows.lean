/-
  NARROWER THAN 'FOR EVERY INPUT', by the rows' own cells (each row's printed sentence says how): FnExactWordWide: laid · FnExactLineWide: laid · FnExactCentreLine: laid · FnExactPlacesOf: laid · FnExactJustifyLine: laid · FnExactLetterAt: laid · FnExactFillLetter: laid · FnExactBestFill: laid · FnExactFillWord: laid · FnExactPriceOf: laid · FnExactSheetBound: laid · FnExactPiecesFor: laid · FnExactCheapestOf: laid · FnExactBestStone: laid · FnExactBestShift: laid.
  DERIVED. THE GIVEN ROWS OF THIS SEAT. 15 by the template 'for every input the law returns true; each argument reads behind the call as it read before'; 0 by the template 'total and deterministic' (their statements: YticjkfacdmmopaaDoorTotals.lean).
  GIVEN WITH THE SEED: the statements are not yours to turn. If you find one false, say at which input.
  Laid BY PROGRAM, IN A SANDBOX (cutbox-rows.mjs): the forced cells as the released guide's own fill.sh prints them over the translation 85e918ec570cb5cc… (all of the seat's roots in one cut). By AI agents, Wed Nov 11 2026. No macro, syntax, notation, axiom, sorry.
-/
import Derived.Test.YticjkfacdmmopaaDoorChecked
import GoSem.PinnedTables
import GoSem.Claim
import GoSem.ClaimJoined
import GoSem.ClaimMapViews
import Derived.JoinedTies
import Derived.KernelRfl
namespace Go.Proofs.YticjkfacdmmopaaDoor
/- THE CELL 'sum', in the pinned program and in every row, IS THE sha256 OF THE DUMP (.gsa) THAT YticjkfacdmmopaaDoorProg.lean LOADS. Nothing in Lean hashes anything: it is a label: what it is worth is what the hold of that sum in a sandbox is worth. -/
noncomputable def Tryd.pinned : Pinned := { name := "yticjkfacdmmopaadoor", sum := "85e918ec570cb5cce6eea78f730a333efceb05a2243117439c9eb97e0530d2f2", checked := Tryd.checked }
namespace Rows
def none {H : Type} : Left H := { results := [], args := [] }

/- WHAT THE LISTED PACKAGE-LEVEL VARIABLES READ AS WHEN THE CALL BEGINS. Each datum BY PROGRAM (the guide's laid-datum.mjs) off the statement by which the dump's own 'gosem.cut.vars' lays the variable. In a bare row this is a premise. The card (YticjkfacdmmopaaDoorCards.lean) ties it to the program's text. -/
def laid_unicode_utf8_acceptRanges {H : Type} : DataW H := .agg [.agg [.lit (.int .u8 128), .lit (.int .u8 191)], .agg [.lit (.int .u8 160), .lit (.int .u8 191)], .agg [.lit (.int .u8 128), .lit (.int .u8 159)], .agg [.lit (.int .u8 144), .lit (.int .u8 191)], .agg [.lit (.int .u8 128), .lit (.int .u8 143)], .agg [.lit (.int .u8 0), .lit (.int .u8 0)], .agg [.lit (.int .u8 0), .lit (.int .u8 0)], .agg [.lit (.int .u8 0), .lit (.int .u8 0)], .agg [.lit (.int .u8 0), .lit (.int .u8 0)], .agg [.lit (.int .u8 0), .lit (.int .u8 0)], .agg [.lit (.int .u8 0), .lit (.int .u8 0)], .agg [.lit (.int .u8 0), .lit (.int .u8 0)], .agg [.lit (.int .u8 0), .lit (.int .u8 0)], .agg [.lit (.int .u8 0), .lit (.int .u8 0)], .agg [.lit (.int .u8 0), .lit (.int .u8 0)], .agg [.lit (.int .u8 0), .lit (.int .u8 0)]]
/-- One of Go's own tables, pinned by name: the form's constant. -/
def laid_unicode_utf8_first : DataW Unit := Go.Pinned.utf8First

/-- 'laws.FnExactWordWide': WHATEVER THE INPUT: true; the input reads as it did. -/
def fnExactWordWideSpec : ChangeSpec := { name := "fnExactWordWide", fn := fun _ => fun
  | [d1, d2] => { results := [.lit (.bool true)], args := [d1, d2] }
  | _ => none }
def fnExactWordWideRow : OpenClaim := { program := "yticjkfacdmmopaadoor", sum := "85e918ec570cb5cce6eea78f730a333efceb05a2243117439c9eb97e0530d2f2", func := "loop.example/g01398/laws.FnExactWordWide", spec := "fnExactWordWide", inPlace := ["internal/bytealg.IndexByteString", "internal/bytealg.IndexString"], named := ["internal/bytealg.MaxLen", "unicode/utf8.first", "unicode/utf8.acceptRanges"], apart := false, laid := [("unicode/utf8.acceptRanges", laid_unicode_utf8_acceptRanges), ("unicode/utf8.first", laid_unicode_utf8_first)] }
def FnExactWordWideSaid : Prop := fnExactWordWideRow.holds Tryd.pinned (OpenSpec.ofChange fnExactWordWideSpec)

/-- ITS FALSE NEIGHBOUR: 'it returns false'. Refute it at one input. -/
def fnExactWordWideWrong : ChangeSpec := { name := "fnExactWordWide", fn := fun _ => fun
  | [d1, d2] => { results := [.lit (.bool false)], args := [d1, d2] }
  | _ => none }
def FnExactWordWideWrongFalsely : Prop := fnExactWordWideRow.holds Tryd.pinned (OpenSpec.ofChange fnExactWordWideWrong)

/-- 'laws.FnExactLineWide': WHATEVER THE INPUT: true; the input reads as it did. -/
def fnExactLineWideSpec : ChangeSpec := { name := "fnExactLineWide", fn := fun _ => fun
  | [d1, d2] => { results := [.lit (.bool true)], args := [d1, d2] }
  | _ => none }
def fnExactLineWideRow : OpenClaim := { program := "yticjkfacdmmopaadoor", sum := "85e918ec570cb5cce6eea78f730a333efceb05a2243117439c9eb97e0530d2f2", func := "loop.example/g01398/laws.FnExactLineWide", spec := "fnExactLineWide", inPlace := ["internal/bytealg.IndexByteString", "internal/bytealg.IndexString"], named := ["internal/bytealg.MaxLen", "unicode/utf8.first", "unicode/utf8.acceptRanges"], apart := false, laid := [("unicode/utf8.acceptRanges", laid_unicode_utf8_acceptRanges), ("unicode/utf8.first", laid_unicode_utf8_first)] }
def FnExactLineWideSaid : Prop := fnExactLineWideRow.holds Tryd.pinned (OpenSpec.ofChange fnExactLineWideSpec)

/-- ITS FALSE NEIGHBOUR: 'it returns false'. Refute it at one input. -/
def fnExactLineWideWrong : ChangeSpec := { name := "fnExactLineWide", fn := fun _ => fun
  | [d1, d2] => { results := [.lit (.bool false)], args := [d1, d2] }
  | _ => none }
def FnExactLineWideWrongFalsely : Prop := fnExactLineWideRow.holds Tryd.pinned (OpenSpec.ofChange fnExactLineWideWrong)

/-- 'laws.FnExactCentreLine': WHATEVER THE INPUT: true; the input reads as it did. -/
def fnExactCentreLineSpec : ChangeSpec := { name := "fnExactCentreLine", fn := fun _ => fun
  | [d1, d2, d3] => { results := [.lit (.bool true)], args := [d1, d2, d3] }
  | _ => none }
def fnExactCentreLineRow : OpenClaim := { program := "yticjkfacdmmopaadoor", sum := "85e918ec570cb5cce6eea78f730a333efceb05a2243117439c9eb97e0530d2f2", func := "loop.example/g01398/laws.FnExactCentreLine", spec := "fnExactCentreLine", inPlace := ["internal/bytealg.IndexByteString", "internal/bytealg.IndexString"], named := ["internal/bytealg.MaxLen", "unicode/utf8.first", "unicode/utf8.acceptRanges"], apart := false, laid := [("unicode/utf8.acceptRanges", laid_unicode_utf8_acceptRanges), ("unicode/utf8.first", laid_unicode_utf8_first)] }
def FnExactCentreLineSaid : Prop := fnExactCentreLineRow.holds Tryd.pinned (OpenSpec.ofChange fnExactCentreLineSpec)

/-- ITS FALSE NEIGHBOUR: 'it returns false'. Refute it at one input. -/
def fnExactCentreLineWrong : ChangeSpec := { name := "fnExactCentreLine", fn := fun _ => fun
  | [d1, d2, d3] => { results := [.lit (.bool false)], args := [d1, d2, d3] }
  | _ => none }
def FnExactCentreLineWrongFalsely : Prop := fnExactCentreLineRow.holds Tryd.pinned (OpenSpec.ofChange fnExactCentreLineWrong)

/-- 'laws.FnExactPlacesOf': WHATEVER THE INPUT: true; the input reads as it did. -/
def fnExactPlacesOfSpec : ChangeSpec := { name := "fnExactPlacesOf", fn := fun _ => fun
  | [d1, d2] => { results := [.lit (.bool true)], args := [d1, d2] }
  | _ => none }
def fnExactPlacesOfRow : OpenClaim := { program := "yticjkfacdmmopaadoor", sum := "85e918ec570cb5cce6eea78f730a333efceb05a2243117439c9eb97e0530d2f2", func := "loop.example/g01398/laws.FnExactPlacesOf", spec := "fnExactPlacesOf", inPlace := ["internal/bytealg.IndexByteString", "internal/bytealg.IndexString"], named := ["internal/bytealg.MaxLen", "unicode/utf8.first", "unicode/utf8.acceptRanges"], apart := false, laid := [("unicode/utf8.acceptRanges", laid_unicode_utf8_acceptRanges), ("unicode/utf8.first", laid_unicode_utf8_first)] }
def FnExactPlacesOfSaid : Prop := fnExactPlacesOfRow.holds Tryd.pinned (OpenSpec.ofChange fnExactPlacesOfSpec)

/-- ITS FALSE NEIGHBOUR: 'it returns false'. Refute it at one input. -/
def fnExactPlacesOfWrong : ChangeSpec := { name := "fnExactPlacesOf", fn := fun _ => fun
  | [d1, d2] => { results := [.lit (.bool false)], args := [d1, d2] }
  | _ => none }
def FnExactPlacesOfWrongFalsely : Prop := fnExactPlacesOfRow.holds Tryd.pinned (OpenSpec.ofChange fnExactPlacesOfWrong)

/-- 'laws.FnExactJustifyLine': WHATEVER THE INPUT: true; the input reads as it did. -/
def fnExactJustifyLineSpec : ChangeSpec := { name := "fnExactJustifyLine", fn := fun _ => fun
  | [d1, d2, d3] => { results := [.lit (.bool true)], args := [d1, d2, d3] }
  | _ => none }
def fnExactJustifyLineRow : OpenClaim := { program := "yticjkfacdmmopaadoor", sum := "85e918ec570cb5cce6eea78f730a333efceb05a2243117439c9eb97e0530d2f2", func := "loop.example/g01398/laws.FnExactJustifyLine", spec := "fnExactJustifyLine", inPlace := ["internal/bytealg.IndexByteString", "internal/bytealg.IndexString", "internal/bytealg.CountString"], named := ["internal/bytealg.MaxLen", "unicode/utf8.first", "unicode/utf8.acceptRanges"], apart := false, laid := [("unicode/utf8.acceptRanges", laid_unicode_utf8_acceptRanges), ("unicode/utf8.first", laid_unicode_utf8_first)] }
def FnExactJustifyLineSaid : Prop := fnExactJustifyLineRow.holds Tryd.pinned (OpenSpec.ofChange fnExactJustifyLineSpec)

/-- ITS FALSE NEIGHBOUR: 'it returns false'. Refute it at one input. -/
def fnExactJustifyLineWrong : ChangeSpec := { name := "fnExactJustifyLine", fn := fun _ => fun
  | [d1, d2, d3] => { results := [.lit (.bool false)], args := [d1, d2, d3] }
  | _ => none }
def FnExactJustifyLineWrongFalsely : Prop := fnExactJustifyLineRow.holds Tryd.pinned (OpenSpec.ofChange fnExactJustifyLineWrong)

/-- 'laws.FnExactLetterAt': WHATEVER THE INPUT: true; the input reads as it did. -/
def fnExactLetterAtSpec : ChangeSpec := { name := "fnExactLetterAt", fn := fun _ => fun
  | [d1, d2, d3] => { results := [.lit (.bool true)], args := [d1, d2, d3] }
  | _ => none }
def fnExactLetterAtRow : OpenClaim := { program := "yticjkfacdmmopaadoor", sum := "85e918ec570cb5cce6eea78f730a333efceb05a2243117439c9eb97e0530d2f2", func := "loop.example/g01398/laws.FnExactLetterAt", spec := "fnExactLetterAt", inPlace := ["internal/bytealg.IndexByteString", "internal/bytealg.IndexString", "internal/bytealg.CountString", "internal/abi.NoEscape", "internal/bytealg.MakeNoZero"], named := ["internal/bytealg.MaxLen", "unicode/utf8.first", "unicode/utf8.acceptRanges"], apart := false, laid := [("unicode/utf8.acceptRanges", laid_unicode_utf8_acceptRanges), ("unicode/utf8.first", laid_unicode_utf8_first)] }
def FnExactLetterAtSaid : Prop := fnExactLetterAtRow.holds Tryd.pinned (OpenSpec.ofChange fnExactLetterAtSpec)

/-- ITS FALSE NEIGHBOUR: 'it returns false'. Refute it at one input. -/
def fnExactLetterAtWrong : ChangeSpec := { name := "fnExactLetterAt", fn := fun _ => fun
  | [d1, d2, d3] => { results := [.lit (.bool false)], args := [d1, d2, d3] }
  | _ => none }
def FnExactLetterAtWrongFalsely : Prop := fnExactLetterAtRow.holds Tryd.pinned (OpenSpec.ofChange fnExactLetterAtWrong)

/-- 'laws.FnExactFillLetter': WHATEVER THE INPUT: true; the input reads as it did. -/
def fnExactFillLetterSpec : ChangeSpec := { name := "fnExactFillLetter", fn := fun _ => fun
  | [d1, d2, d3, d4, d5] => { results := [.lit (.bool true)], args := [d1, d2, d3, d4, d5] }
  | _ => none }
def fnExactFillLetterRow : OpenClaim := { program := "yticjkfacdmmopaadoor", sum := "85e918ec570cb5cce6eea78f730a333efceb05a2243117439c9eb97e0530d2f2", func := "loop.example/g01398/laws.FnExactFillLetter", spec := "fnExactFillLetter", inPlace := ["internal/bytealg.IndexByteString", "internal/bytealg.IndexString"], unfollowed := true, recurses := true, named := ["internal/bytealg.MaxLen", "unicode/utf8.first", "unicode/utf8.acceptRanges"], apart := false, laid := [("unicode/utf8.acceptRanges", laid_unicode_utf8_acceptRanges), ("unicode/utf8.first", laid_unicode_utf8_first)] }
def FnExactFillLetterSaid : Prop := fnExactFillLetterRow.holds Tryd.pinned (OpenSpec.ofChange fnExactFillLetterSpec)

/-- ITS FALSE NEIGHBOUR: 'it returns false'. Refute it at one input. -/
def fnExactFillLetterWrong : ChangeSpec := { name := "fnExactFillLetter", fn := fun _ => fun
  | [d1, d2, d3, d4, d5] => { results := [.lit (.bool false)], args := [d1, d2, d3, d4, d5] }
  | _ => none }
def FnExactFillLetterWrongFalsely : Prop := fnExactFillLetterRow.holds Tryd.pinned (OpenSpec.ofChange fnExactFillLetterWrong)

/-- 'laws.FnExactBestFill': WHATEVER THE INPUT: true; the input reads as it did. -/
def fnExactBestFillSpec : ChangeSpec := { name := "fnExactBestFill", fn := fun _ => fun
  | [d1, d2, d3, d4, d5] => { results := [.lit (.bool true)], args := [d1, d2, d3, d4, d5] }
  | _ => none }
def fnExactBestFillRow : OpenClaim := { program := "yticjkfacdmmopaadoor", sum := "85e918ec570cb5cce6eea78f730a333efceb05a2243117439c9eb97e0530d2f2", func := "loop.example/g01398/laws.FnExactBestFill", spec := "fnExactBestFill", inPlace := ["internal/bytealg.IndexByteString", "internal/bytealg.IndexString"], unfollowed := true, recurses := true, named := ["internal/bytealg.MaxLen", "unicode/utf8.first", "unicode/utf8.acceptRanges"], apart := false, laid := [("unicode/utf8.acceptRanges", laid_unicode_utf8_acceptRanges), ("unicode/utf8.first", laid_unicode_utf8_first)] }
def FnExactBestFillSaid : Prop := fnExactBestFillRow.holds Tryd.pinned (OpenSpec.ofChange fnExactBestFillSpec)

/-- ITS FALSE NEIGHBOUR: 'it returns false'. Refute it at one input. -/
def fnExactBestFillWrong : ChangeSpec := { name := "fnExactBestFill", fn := fun _ => fun
  | [d1, d2, d3, d4, d5] => { results := [.lit (.bool false)], args := [d1, d2, d3, d4, d5] }
  | _ => none }
def FnExactBestFillWrongFalsely : Prop := fnExactBestFillRow.holds Tryd.pinned (OpenSpec.ofChange fnExactBestFillWrong)

/-- 'laws.FnExactFillWord': WHATEVER THE INPUT: true; the input reads as it did. -/
def fnExactFillWordSpec : ChangeSpec := { name := "fnExactFillWord", fn := fun _ => fun
  | [d1, d2, d3, d4, d5, d6] => { results := [.lit (.bool true)], args := [d1, d2, d3, d4, d5, d6] }
  | _ => none }
def fnExactFillWordRow : OpenClaim := { program := "yticjkfacdmmopaadoor", sum := "85e918ec570cb5cce6eea78f730a333efceb05a2243117439c9eb97e0530d2f2", func := "loop.example/g01398/laws.FnExactFillWord", spec := "fnExactFillWord", inPlace := ["internal/bytealg.IndexByteString", "internal/bytealg.IndexString"], unfollowed := true, recurses := true, named := ["internal/bytealg.MaxLen", "unicode/utf8.first", "unicode/utf8.acceptRanges"], apart := false, laid := [("unicode/utf8.acceptRanges", laid_unicode_utf8_acceptRanges), ("unicode/utf8.first", laid_unicode_utf8_first)] }
def FnExactFillWordSaid : Prop := fnExactFillWordRow.holds Tryd.pinned (OpenSpec.ofChange fnExactFillWordSpec)

/-- ITS FALSE NEIGHBOUR: 'it returns false'. Refute it at one input. -/
def fnExactFillWordWrong : ChangeSpec := { name := "fnExactFillWord", fn := fun _ => fun
  | [d1, d2, d3, d4, d5, d6] => { results := [.lit (.bool false)], args := [d1, d2, d3, d4, d5, d6] }
  | _ => none }
def FnExactFillWordWrongFalsely : Prop := fnExactFillWordRow.holds Tryd.pinned (OpenSpec.ofChange fnExactFillWordWrong)

/-- 'laws.FnExactPriceOf': WHATEVER THE INPUT: true; the input reads as it did. -/
def fnExactPriceOfSpec : ChangeSpec := { name := "fnExactPriceOf", fn := fun _ => fun
  | [d1, d2, d3] => { results := [.lit (.bool true)], args := [d1, d2, d3] }
  | _ => none }
def fnExactPriceOfRow : OpenClaim := { program := "yticjkfacdmmopaadoor", sum := "85e918ec570cb5cce6eea78f730a333efceb05a2243117439c9eb97e0530d2f2", func := "loop.example/g01398/laws.FnExactPriceOf", spec := "fnExactPriceOf", inPlace := ["internal/bytealg.IndexByteString", "internal/bytealg.IndexString", "internal/bytealg.CountString", "internal/abi.NoEscape", "internal/bytealg.MakeNoZero"], unfollowed := true, recurses := true, named := ["internal/bytealg.MaxLen", "unicode/utf8.first", "unicode/utf8.acceptRanges"], apart := false, laid := [("unicode/utf8.acceptRanges", laid_unicode_utf8_acceptRanges), ("unicode/utf8.first", laid_unicode_utf8_first)] }
def FnExactPriceOfSaid : Prop := fnExactPriceOfRow.holds Tryd.pinned (OpenSpec.ofChange fnExactPriceOfSpec)

/-- ITS FALSE NEIGHBOUR: 'it returns false'. Refute it at one input. -/
def fnExactPriceOfWrong : ChangeSpec := { name := "fnExactPriceOf", fn := fun _ => fun
  | [d1, d2, d3] => { results := [.lit (.bool false)], args := [d1, d2, d3] }
  | _ => none }
def FnExactPriceOfWrongFalsely : Prop := fnExactPriceOfRow.holds Tryd.pinned (OpenSpec.ofChange fnExactPriceOfWrong)

/-- 'laws.FnExactSheetBound': WHATEVER THE INPUT: true; the input reads as it did. -/
def fnExactSheetBoundSpec : ChangeSpec := { name := "fnExactSheetBound", fn := fun _ => fun
  | [d1, d2, d3] => { results := [.lit (.bool true)], args := [d1, d2, d3] }
  | _ => none }
def fnExactSheetBoundRow : OpenClaim := { program := "yticjkfacdmmopaadoor", sum := "85e918ec570cb5cce6eea78f730a333efceb05a2243117439c9eb97e0530d2f2", func := "loop.example/g01398/laws.FnExactSheetBound", spec := "fnExactSheetBound", inPlace := ["internal/bytealg.IndexByteString", "internal/bytealg.IndexString", "internal/bytealg.CountString", "internal/abi.NoEscape", "internal/bytealg.MakeNoZero"], named := ["internal/bytealg.MaxLen", "unicode/utf8.first", "unicode/utf8.acceptRanges"], apart := false, laid := [("unicode/utf8.acceptRanges", laid_unicode_utf8_acceptRanges), ("unicode/utf8.first", laid_unicode_utf8_first)] }
def FnExactSheetBoundSaid : Prop := fnExactSheetBoundRow.holds Tryd.pinned (OpenSpec.ofChange fnExactSheetBoundSpec)

/-- ITS FALSE NEIGHBOUR: 'it returns false'. Refute it at one input. -/
def fnExactSheetBoundWrong : ChangeSpec := { name := "fnExactSheetBound", fn := fun _ => fun
  | [d1, d2, d3] => { results := [.lit (.bool false)], args := [d1, d2, d3] }
  | _ => none }
def FnExactSheetBoundWrongFalsely : Prop := fnExactSheetBoundRow.holds Tryd.pinned (OpenSpec.ofChange fnExactSheetBoundWrong)

/-- 'laws.FnExactPiecesFor': WHATEVER THE INPUT: true; the input reads as it did. -/
def fnExactPiecesForSpec : ChangeSpec := { name := "fnExactPiecesFor", fn := fun _ => fun
  | [d1, d2, d3] => { results := [.lit (.bool true)], args := [d1, d2, d3] }
  | _ => none }
def fnExactPiecesForRow : OpenClaim := { program := "yticjkfacdmmopaadoor", sum := "85e918ec570cb5cce6eea78f730a333efceb05a2243117439c9eb97e0530d2f2", func := "loop.example/g01398/laws.FnExactPiecesFor", spec := "fnExactPiecesFor", inPlace := ["internal/bytealg.IndexByteString", "internal/bytealg.IndexString", "internal/bytealg.CountString", "internal/abi.NoEscape", "internal/bytealg.MakeNoZero"], named := ["internal/bytealg.MaxLen", "unicode/utf8.first", "unicode/utf8.acceptRanges"], apart := false, laid := [("unicode/utf8.acceptRanges", laid_unicode_utf8_acceptRanges), ("unicode/utf8.first", laid_unicode_utf8_first)] }
def FnExactPiecesForSaid : Prop := fnExactPiecesForRow.holds Tryd.pinned (OpenSpec.ofChange fnExactPiecesForSpec)

/-- ITS FALSE NEIGHBOUR: 'it returns false'. Refute it at one input. -/
def fnExactPiecesForWrong : ChangeSpec := { name := "fnExactPiecesFor", fn := fun _ => fun
  | [d1, d2, d3] => { results := [.lit (.bool false)], args := [d1, d2, d3] }
  | _ => none }
def FnExactPiecesForWrongFalsely : Prop := fnExactPiecesForRow.holds Tryd.pinned (OpenSpec.ofChange fnExactPiecesForWrong)

/-- 'laws.FnExactCheapestOf': WHATEVER THE INPUT: true; the input reads as it did. -/
def fnExactCheapestOfSpec : ChangeSpec := { name := "fnExactCheapestOf", fn := fun _ => fun
  | [d1, d2, d3] => { results := [.lit (.bool true)], args := [d1, d2, d3] }
  | _ => none }
def fnExactCheapestOfRow : OpenClaim := { program := "yticjkfacdmmopaadoor", sum := "85e918ec570cb5cce6eea78f730a333efceb05a2243117439c9eb97e0530d2f2", func := "loop.example/g01398/laws.FnExactCheapestOf", spec := "fnExactCheapestOf", inPlace := ["internal/bytealg.IndexByteString", "internal/bytealg.IndexString", "internal/bytealg.CountString", "internal/abi.NoEscape", "internal/bytealg.MakeNoZero"], unfollowed := true, recurses := true, named := ["internal/bytealg.MaxLen", "unicode/utf8.first", "unicode/utf8.acceptRanges"], apart := false, laid := [("unicode/utf8.acceptRanges", laid_unicode_utf8_acceptRanges), ("unicode/utf8.first", laid_unicode_utf8_first)] }
def FnExactCheapestOfSaid : Prop := fnExactCheapestOfRow.holds Tryd.pinned (OpenSpec.ofChange fnExactCheapestOfSpec)

/-- ITS FALSE NEIGHBOUR: 'it returns false'. Refute it at one input. -/
def fnExactCheapestOfWrong : ChangeSpec := { name := "fnExactCheapestOf", fn := fun _ => fun
  | [d1, d2, d3] => { results := [.lit (.bool false)], args := [d1, d2, d3] }
  | _ => none }
def FnExactCheapestOfWrongFalsely : Prop := fnExactCheapestOfRow.holds Tryd.pinned (OpenSpec.ofChange fnExactCheapestOfWrong)

/-- 'laws.FnExactBestStone': WHATEVER THE INPUT: true; the input reads as it did. -/
def fnExactBestStoneSpec : ChangeSpec := { name := "fnExactBestStone", fn := fun _ => fun
  | [d1, d2] => { results := [.lit (.bool true)], args := [d1, d2] }
  | _ => none }
def fnExactBestStoneRow : OpenClaim := { program := "yticjkfacdmmopaadoor", sum := "85e918ec570cb5cce6eea78f730a333efceb05a2243117439c9eb97e0530d2f2", func := "loop.example/g01398/laws.FnExactBestStone", spec := "fnExactBestStone", inPlace := ["internal/bytealg.IndexByteString", "internal/bytealg.IndexString", "internal/bytealg.CountString", "internal/abi.NoEscape", "internal/bytealg.MakeNoZero"], unfollowed := true, recurses := true, named := ["internal/bytealg.MaxLen", "unicode/utf8.first", "unicode/utf8.acceptRanges"], apart := false, laid := [("unicode/utf8.acceptRanges", laid_unicode_utf8_acceptRanges), ("unicode/utf8.first", laid_unicode_utf8_first)] }
def FnExactBestStoneSaid : Prop := fnExactBestStoneRow.holds Tryd.pinned (OpenSpec.ofChange fnExactBestStoneSpec)

/-- ITS FALSE NEIGHBOUR: 'it returns false'. Refute it at one input. -/
def fnExactBestStoneWrong : ChangeSpec := { name := "fnExactBestStone", fn := fun _ => fun
  | [d1, d2] => { results := [.lit (.bool false)], args := [d1, d2] }
  | _ => none }
def FnExactBestStoneWrongFalsely : Prop := fnExactBestStoneRow.holds Tryd.pinned (OpenSpec.ofChange fnExactBestStoneWrong)

/-- 'laws.FnExactBestShift': WHATEVER THE INPUT: true; the input reads as it did. -/
def fnExactBestShiftSpec : ChangeSpec := { name := "fnExactBestShift", fn := fun _ => fun
  | [d1, d2, d3] => { results := [.lit (.bool true)], args := [d1, d2, d3] }
  | _ => none }
def fnExactBestShiftRow : OpenClaim := { program := "yticjkfacdmmopaadoor", sum := "85e918ec570cb5cce6eea78f730a333efceb05a2243117439c9eb97e0530d2f2", func := "loop.example/g01398/laws.FnExactBestShift", spec := "fnExactBestShift", inPlace := ["internal/bytealg.IndexByteString", "internal/bytealg.IndexString", "internal/bytealg.CountString", "internal/abi.NoEscape", "internal/bytealg.MakeNoZero"], unfollowed := true, recurses := true, named := ["internal/bytealg.MaxLen", "unicode/utf8.first", "unicode/utf8.acceptRanges"], apart := false, laid := [("unicode/utf8.acceptRanges", laid_unicode_utf8_acceptRanges), ("unicode/utf8.first", laid_unicode_utf8_first)] }
def FnExactBestShiftSaid : Prop := fnExactBestShiftRow.holds Tryd.pinned (OpenSpec.ofChange fnExactBestShiftSpec)

/-- ITS FALSE NEIGHBOUR: 'it returns false'. Refute it at one input. -/
def fnExactBestShiftWrong : ChangeSpec := { name := "fnExactBestShift", fn := fun _ => fun
  | [d1, d2, d3] => { results := [.lit (.bool false)], args := [d1, d2, d3] }
  | _ => none }
def FnExactBestShiftWrongFalsely : Prop := fnExactBestShiftRow.holds Tryd.pinned (OpenSpec.ofChange fnExactBestShiftWrong)

/- THE SECOND FORM. 'bulk': how many values and letters a reading holds, each counted each time it is reached (what is shared counts as often as it is met; a slice's spare places count too). A statement '..UptoSaid' is the law's where the arguments, and the package variables that the reading takes, are together of bulk at most 1048576: NARROWER than '..Said'. Prove '..Said' where nothing that the law and all that it calls make is longer than what came in: it says more and counts as full. Else prove '..UptoSaid'. A law counts once. -/
mutual
def uptoBulk {H : Type} : DataW H → Nat
  | .lit (.string bytes) => bytes.length + 1
  | .lit _ => 1
  | .nil => 1
  | .ptr d => uptoBulk d + 1
  | .slice elems spare => uptoBulkAll elems + uptoBulkAll spare + 1
  | .agg parts => uptoBulkAll parts + 1
  | .iface _ d => uptoBulk d + 1
  | .map entries => uptoBulkEntries entries + 1
  | .held _ => 1
def uptoBulkAll {H : Type} : List (DataW H) → Nat
  | [] => 0
  | d :: r => uptoBulk d + uptoBulkAll r
def uptoBulkEntries {H : Type} : List (Lit × DataW H) → Nat
  | [] => 0
  | x :: r => uptoBulkEntry x + uptoBulkEntries r
def uptoBulkEntry {H : Type} : Lit × DataW H → Nat
  | (.string bytes, d) => bytes.length + uptoBulk d + 1
  | (_, d) => uptoBulk d + 1
 end
def uptoSmall : (H : Type) → List (DataW H) → Bool := fun _ ds => decide (uptoBulkAll ds ≤ 1048576)
def OpenSpec.upto (s : _root_.Go.ChangeSpec) : _root_.Go.OpenSpec := { _root_.Go.OpenSpec.ofChange s with cond := some uptoSmall }

/-- 'laws.FnExactWordWide', WHERE WHAT IT READS IS OF BULK AT MOST 1048576: true; the input reads as it did. -/
def fnExactWordWideUptoRow : OpenClaim := { program := "yticjkfacdmmopaadoor", sum := "85e918ec570cb5cce6eea78f730a333efceb05a2243117439c9eb97e0530d2f2", func := "loop.example/g01398/laws.FnExactWordWide", spec := "fnExactWordWide", inPlace := ["internal/bytealg.IndexByteString", "internal/bytealg.IndexString"], named := ["internal/bytealg.MaxLen", "unicode/utf8.first", "unicode/utf8.acceptRanges"], apart := false, laid := [("unicode/utf8.acceptRanges", laid_unicode_utf8_acceptRanges), ("unicode/utf8.first", laid_unicode_utf8_first)], narrowed := true }
def FnExactWordWideUptoSaid : Prop := fnExactWordWideUptoRow.holds Tryd.pinned (OpenSpec.upto fnExactWordWideSpec)

/-- 'laws.FnExactLineWide', WHERE WHAT IT READS IS OF BULK AT MOST 1048576: true; the input reads as it did. -/
def fnExactLineWideUptoRow : OpenClaim := { program := "yticjkfacdmmopaadoor", sum := "85e918ec570cb5cce6eea78f730a333efceb05a2243117439c9eb97e0530d2f2", func := "loop.example/g01398/laws.FnExactLineWide", spec := "fnExactLineWide", inPlace := ["internal/bytealg.IndexByteString", "internal/bytealg.IndexString"], named := ["internal/bytealg.MaxLen", "unicode/utf8.first", "unicode/utf8.acceptRanges"], apart := false, laid := [("unicode/utf8.acceptRanges", laid_unicode_utf8_acceptRanges), ("unicode/utf8.first", laid_unicode_utf8_first)], narrowed := true }
def FnExactLineWideUptoSaid : Prop := fnExactLineWideUptoRow.holds Tryd.pinned (OpenSpec.upto fnExactLineWideSpec)

/-- 'laws.FnExactCentreLine', WHERE WHAT IT READS IS OF BULK AT MOST 1048576: true; the input reads as it did. -/
def fnExactCentreLineUptoRow : OpenClaim := { program := "yticjkfacdmmopaadoor", sum := "85e918ec570cb5cce6eea78f730a333efceb05a2243117439c9eb97e0530d2f2", func := "loop.example/g01398/laws.FnExactCentreLine", spec := "fnExactCentreLine", inPlace := ["internal/bytealg.IndexByteString", "internal/bytealg.IndexString"], named := ["internal/bytealg.MaxLen", "unicode/utf8.first", "unicode/utf8.acceptRanges"], apart := false, laid := [("unicode/utf8.acceptRanges", laid_unicode_utf8_acceptRanges), ("unicode/utf8.first", laid_unicode_utf8_first)], narrowed := true }
def FnExactCentreLineUptoSaid : Prop := fnExactCentreLineUptoRow.holds Tryd.pinned (OpenSpec.upto fnExactCentreLineSpec)

/-- 'laws.FnExactPlacesOf', WHERE WHAT IT READS IS OF BULK AT MOST 1048576: true; the input reads as it did. -/
def fnExactPlacesOfUptoRow : OpenClaim := { program := "yticjkfacdmmopaadoor", sum := "85e918ec570cb5cce6eea78f730a333efceb05a2243117439c9eb97e0530d2f2", func := "loop.example/g01398/laws.FnExactPlacesOf", spec := "fnExactPlacesOf", inPlace := ["internal/bytealg.IndexByteString", "internal/bytealg.IndexString"], named := ["internal/bytealg.MaxLen", "unicode/utf8.first", "unicode/utf8.acceptRanges"], apart := false, laid := [("unicode/utf8.acceptRanges", laid_unicode_utf8_acceptRanges), ("unicode/utf8.first", laid_unicode_utf8_first)], narrowed := true }
def FnExactPlacesOfUptoSaid : Prop := fnExactPlacesOfUptoRow.holds Tryd.pinned (OpenSpec.upto fnExactPlacesOfSpec)

/-- 'laws.FnExactJustifyLine', WHERE WHAT IT READS IS OF BULK AT MOST 1048576: true; the input reads as it did. -/
def fnExactJustifyLineUptoRow : OpenClaim := { program := "yticjkfacdmmopaadoor", sum := "85e918ec570cb5cce6eea78f730a333efceb05a2243117439c9eb97e0530d2f2", func := "loop.example/g01398/laws.FnExactJustifyLine", spec := "fnExactJustifyLine", inPlace := ["internal/bytealg.IndexByteString", "internal/bytealg.IndexString", "internal/bytealg.CountString"], named := ["internal/bytealg.MaxLen", "unicode/utf8.first", "unicode/utf8.acceptRanges"], apart := false, laid := [("unicode/utf8.acceptRanges", laid_unicode_utf8_acceptRanges), ("unicode/utf8.first", laid_unicode_utf8_first)], narrowed := true }
def FnExactJustifyLineUptoSaid : Prop := fnExactJustifyLineUptoRow.holds Tryd.pinned (OpenSpec.upto fnExactJustifyLineSpec)

/-- 'laws.FnExactLetterAt', WHERE WHAT IT READS IS OF BULK AT MOST 1048576: true; the input reads as it did. -/
def fnExactLetterAtUptoRow : OpenClaim := { program := "yticjkfacdmmopaadoor", sum := "85e918ec570cb5cce6eea78f730a333efceb05a2243117439c9eb97e0530d2f2", func := "loop.example/g01398/laws.FnExactLetterAt", spec := "fnExactLetterAt", inPlace := ["internal/bytealg.IndexByteString", "internal/bytealg.IndexString", "internal/bytealg.CountString", "internal/abi.NoEscape", "internal/bytealg.MakeNoZero"], named := ["internal/bytealg.MaxLen", "unicode/utf8.first", "unicode/utf8.acceptRanges"], apart := false, laid := [("unicode/utf8.acceptRanges", laid_unicode_utf8_acceptRanges), ("unicode/utf8.first", laid_unicode_utf8_first)], narrowed := true }
def FnExactLetterAtUptoSaid : Prop := fnExactLetterAtUptoRow.holds Tryd.pinned (OpenSpec.upto fnExactLetterAtSpec)

/-- 'laws.FnExactFillLetter', WHERE WHAT IT READS IS OF BULK AT MOST 1048576: true; the input reads as it did. -/
def fnExactFillLetterUptoRow : OpenClaim := { program := "yticjkfacdmmopaadoor", sum := "85e918ec570cb5cce6eea78f730a333efceb05a2243117439c9eb97e0530d2f2", func := "loop.example/g01398/laws.FnExactFillLetter", spec := "fnExactFillLetter", inPlace := ["internal/bytealg.IndexByteString", "internal/bytealg.IndexString"], unfollowed := true, recurses := true, named := ["internal/bytealg.MaxLen", "unicode/utf8.first", "unicode/utf8.acceptRanges"], apart := false, laid := [("unicode/utf8.acceptRanges", laid_unicode_utf8_acceptRanges), ("unicode/utf8.first", laid_unicode_utf8_first)], narrowed := true }
def FnExactFillLetterUptoSaid : Prop := fnExactFillLetterUptoRow.holds Tryd.pinned (OpenSpec.upto fnExactFillLetterSpec)

/-- 'laws.FnExactBestFill', WHERE WHAT IT READS IS OF BULK AT MOST 1048576: true; the input reads as it did. -/
def fnExactBestFillUptoRow : OpenClaim := { program := "yticjkfacdmmopaadoor", sum := "85e918ec570cb5cce6eea78f730a333efceb05a2243117439c9eb97e0530d2f2", func := "loop.example/g01398/laws.FnExactBestFill", spec := "fnExactBestFill", inPlace := ["internal/bytealg.IndexByteString", "internal/bytealg.IndexString"], unfollowed := true, recurses := true, named := ["internal/bytealg.MaxLen", "unicode/utf8.first", "unicode/utf8.acceptRanges"], apart := false, laid := [("unicode/utf8.acceptRanges", laid_unicode_utf8_acceptRanges), ("unicode/utf8.first", laid_unicode_utf8_first)], narrowed := true }
def FnExactBestFillUptoSaid : Prop := fnExactBestFillUptoRow.holds Tryd.pinned (OpenSpec.upto fnExactBestFillSpec)

/-- 'laws.FnExactFillWord', WHERE WHAT IT READS IS OF BULK AT MOST 1048576: true; the input reads as it did. -/
def fnExactFillWordUptoRow : OpenClaim := { program := "yticjkfacdmmopaadoor", sum := "85e918ec570cb5cce6eea78f730a333efceb05a2243117439c9eb97e0530d2f2", func := "loop.example/g01398/laws.FnExactFillWord", spec := "fnExactFillWord", inPlace := ["internal/bytealg.IndexByteString", "internal/bytealg.IndexString"], unfollowed := true, recurses := true, named := ["internal/bytealg.MaxLen", "unicode/utf8.first", "unicode/utf8.acceptRanges"], apart := false, laid := [("unicode/utf8.acceptRanges", laid_unicode_utf8_acceptRanges), ("unicode/utf8.first", laid_unicode_utf8_first)], narrowed := true }
def FnExactFillWordUptoSaid : Prop := fnExactFillWordUptoRow.holds Tryd.pinned (OpenSpec.upto fnExactFillWordSpec)

/-- 'laws.FnExactPriceOf', WHERE WHAT IT READS IS OF BULK AT MOST 1048576: true; the input reads as it did. -/
def fnExactPriceOfUptoRow : OpenClaim := { program := "yticjkfacdmmopaadoor", sum := "85e918ec570cb5cce6eea78f730a333efceb05a2243117439c9eb97e0530d2f2", func := "loop.example/g01398/laws.FnExactPriceOf", spec := "fnExactPriceOf", inPlace := ["internal/bytealg.IndexByteString", "internal/bytealg.IndexString", "internal/bytealg.CountString", "internal/abi.NoEscape", "internal/bytealg.MakeNoZero"], unfollowed := true, recurses := true, named := ["internal/bytealg.MaxLen", "unicode/utf8.first", "unicode/utf8.acceptRanges"], apart := false, laid := [("unicode/utf8.acceptRanges", laid_unicode_utf8_acceptRanges), ("unicode/utf8.first", laid_unicode_utf8_first)], narrowed := true }
def FnExactPriceOfUptoSaid : Prop := fnExactPriceOfUptoRow.holds Tryd.pinned (OpenSpec.upto fnExactPriceOfSpec)

/-- 'laws.FnExactSheetBound', WHERE WHAT IT READS IS OF BULK AT MOST 1048576: true; the input reads as it did. -/
def fnExactSheetBoundUptoRow : OpenClaim := { program := "yticjkfacdmmopaadoor", sum := "85e918ec570cb5cce6eea78f730a333efceb05a2243117439c9eb97e0530d2f2", func := "loop.example/g01398/laws.FnExactSheetBound", spec := "fnExactSheetBound", inPlace := ["internal/bytealg.IndexByteString", "internal/bytealg.IndexString", "internal/bytealg.CountString", "internal/abi.NoEscape", "internal/bytealg.MakeNoZero"], named := ["internal/bytealg.MaxLen", "unicode/utf8.first", "unicode/utf8.acceptRanges"], apart := false, laid := [("unicode/utf8.acceptRanges", laid_unicode_utf8_acceptRanges), ("unicode/utf8.first", laid_unicode_utf8_first)], narrowed := true }
def FnExactSheetBoundUptoSaid : Prop := fnExactSheetBoundUptoRow.holds Tryd.pinned (OpenSpec.upto fnExactSheetBoundSpec)

/-- 'laws.FnExactPiecesFor', WHERE WHAT IT READS IS OF BULK AT MOST 1048576: true; the input reads as it did. -/
def fnExactPiecesForUptoRow : OpenClaim := { program := "yticjkfacdmmopaadoor", sum := "85e918ec570cb5cce6eea78f730a333efceb05a2243117439c9eb97e0530d2f2", func := "loop.example/g01398/laws.FnExactPiecesFor", spec := "fnExactPiecesFor", inPlace := ["internal/bytealg.IndexByteString", "internal/bytealg.IndexString", "internal/bytealg.CountString", "internal/abi.NoEscape", "internal/bytealg.MakeNoZero"], named := ["internal/bytealg.MaxLen", "unicode/utf8.first", "unicode/utf8.acceptRanges"], apart := false, laid := [("unicode/utf8.acceptRanges", laid_unicode_utf8_acceptRanges), ("unicode/utf8.first", laid_unicode_utf8_first)], narrowed := true }
def FnExactPiecesForUptoSaid : Prop := fnExactPiecesForUptoRow.holds Tryd.pinned (OpenSpec.upto fnExactPiecesForSpec)

/-- 'laws.FnExactCheapestOf', WHERE WHAT IT READS IS OF BULK AT MOST 1048576: true; the input reads as it did. -/
def fnExactCheapestOfUptoRow : OpenClaim := { program := "yticjkfacdmmopaadoor", sum := "85e918ec570cb5cce6eea78f730a333efceb05a2243117439c9eb97e0530d2f2", func := "loop.example/g01398/laws.FnExactCheapestOf", spec := "fnExactCheapestOf", inPlace := ["internal/bytealg.IndexByteString", "internal/bytealg.IndexString", "internal/bytealg.CountString", "internal/abi.NoEscape", "internal/bytealg.MakeNoZero"], unfollowed := true, recurses := true, named := ["internal/bytealg.MaxLen", "unicode/utf8.first", "unicode/utf8.acceptRanges"], apart := false, laid := [("unicode/utf8.acceptRanges", laid_unicode_utf8_acceptRanges), ("unicode/utf8.first", laid_unicode_utf8_first)], narrowed := true }
def FnExactCheapestOfUptoSaid : Prop := fnExactCheapestOfUptoRow.holds Tryd.pinned (OpenSpec.upto fnExactCheapestOfSpec)

/-- 'laws.FnExactBestStone', WHERE WHAT IT READS IS OF BULK AT MOST 1048576: true; the input reads as it did. -/
def fnExactBestStoneUptoRow : OpenClaim := { program := "yticjkfacdmmopaadoor", sum := "85e918ec570cb5cce6eea78f730a333efceb05a2243117439c9eb97e0530d2f2", func := "loop.example/g01398/laws.FnExactBestStone", spec := "fnExactBestStone", inPlace := ["internal/bytealg.IndexByteString", "internal/bytealg.IndexString", "internal/bytealg.CountString", "internal/abi.NoEscape", "internal/bytealg.MakeNoZero"], unfollowed := true, recurses := true, named := ["internal/bytealg.MaxLen", "unicode/utf8.first", "unicode/utf8.acceptRanges"], apart := false, laid := [("unicode/utf8.acceptRanges", laid_unicode_utf8_acceptRanges), ("unicode/utf8.first", laid_unicode_utf8_first)], narrowed := true }
def FnExactBestStoneUptoSaid : Prop := fnExactBestStoneUptoRow.holds Tryd.pinned (OpenSpec.upto fnExactBestStoneSpec)

/-- 'laws.FnExactBestShift', WHERE WHAT IT READS IS OF BULK AT MOST 1048576: true; the input reads as it did. -/
def fnExactBestShiftUptoRow : OpenClaim := { program := "yticjkfacdmmopaadoor", sum := "85e918ec570cb5cce6eea78f730a333efceb05a2243117439c9eb97e0530d2f2", func := "loop.example/g01398/laws.FnExactBestShift", spec := "fnExactBestShift", inPlace := ["internal/bytealg.IndexByteString", "internal/bytealg.IndexString", "internal/bytealg.CountString", "internal/abi.NoEscape", "internal/bytealg.MakeNoZero"], unfollowed := true, recurses := true, named := ["internal/bytealg.MaxLen", "unicode/utf8.first", "unicode/utf8.acceptRanges"], apart := false, laid := [("unicode/utf8.acceptRanges", laid_unicode_utf8_acceptRanges), ("unicode/utf8.first", laid_unicode_utf8_first)], narrowed := true }
def FnExactBestShiftUptoSaid : Prop := fnExactBestShiftUptoRow.holds Tryd.pinned (OpenSpec.upto fnExactBestShiftSpec)

end Rows
end Go.Proofs.YticjkfacdmmopaaDoor
