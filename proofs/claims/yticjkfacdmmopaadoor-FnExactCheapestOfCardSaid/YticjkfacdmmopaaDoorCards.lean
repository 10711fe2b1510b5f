/-
  DERIVED. GIVEN WITH THE SEED: THE CARDS: each row of YticjkfacdmmopaaDoorRows.lean that lists a variable, with what it lists TIED to the program's text (the seventh form; the later family's looks); each row that meets fmt, with fmt's text TOLD by the authors' own Lean function (tested against real Go, not proved from fmt's source: count such statements apart). THE CARD IS WHAT COUNTS. Prove the row's statement (the work); the ties are given (YticjkfacdmmopaaDoorTie.lean); close each card by the builder's one call (the guide's Derived/Test/ToyasCard.lean, 'card_holds'). Laid BY PROGRAM, IN A SANDBOX (cutbox-door.mjs). By AI agents, Wed Nov 11 2026. No macro, syntax, notation, axiom, sorry.
-/
import Derived.Test.YticjkfacdmmopaaDoorRows
import GoSem.ClaimSeven
namespace Go.Proofs.YticjkfacdmmopaaDoor
namespace Rows

/-- THE TIED CARD OF 'laws.FnExactWordWide'. -/
def fnExactWordWideCard : Claim7 := { stood := { row := fnExactWordWideRow, standIns := [], harness := (true, "fc49e28df865865bbabe04210e12078495a57aa0053ed60342697f1b61f33244"), looks := false }, kinds := [], alts := [], laidByText := true, laidKinds := [.data, .pinned], laidTests := true, laidLooks := .later }
def FnExactWordWideCardSaid : Prop := Claim7.holds Tryd.pinned (.plain (OpenSpec.ofChange fnExactWordWideSpec)) fnExactWordWideCard

/-- THE TIED CARD OF 'laws.FnExactLineWide'. -/
def fnExactLineWideCard : Claim7 := { stood := { row := fnExactLineWideRow, standIns := [], harness := (true, "fc49e28df865865bbabe04210e12078495a57aa0053ed60342697f1b61f33244"), looks := false }, kinds := [], alts := [], laidByText := true, laidKinds := [.data, .pinned], laidTests := true, laidLooks := .later }
def FnExactLineWideCardSaid : Prop := Claim7.holds Tryd.pinned (.plain (OpenSpec.ofChange fnExactLineWideSpec)) fnExactLineWideCard

/-- THE TIED CARD OF 'laws.FnExactCentreLine'. -/
def fnExactCentreLineCard : Claim7 := { stood := { row := fnExactCentreLineRow, standIns := [], harness := (true, "fc49e28df865865bbabe04210e12078495a57aa0053ed60342697f1b61f33244"), looks := false }, kinds := [], alts := [], laidByText := true, laidKinds := [.data, .pinned], laidTests := true, laidLooks := .later }
def FnExactCentreLineCardSaid : Prop := Claim7.holds Tryd.pinned (.plain (OpenSpec.ofChange fnExactCentreLineSpec)) fnExactCentreLineCard

/-- THE TIED CARD OF 'laws.FnExactPlacesOf'. -/
def fnExactPlacesOfCard : Claim7 := { stood := { row := fnExactPlacesOfRow, standIns := [], harness := (true, "fc49e28df865865bbabe04210e12078495a57aa0053ed60342697f1b61f33244"), looks := false }, kinds := [], alts := [], laidByText := true, laidKinds := [.data, .pinned], laidTests := true, laidLooks := .later }
def FnExactPlacesOfCardSaid : Prop := Claim7.holds Tryd.pinned (.plain (OpenSpec.ofChange fnExactPlacesOfSpec)) fnExactPlacesOfCard

/-- THE TIED CARD OF 'laws.FnExactJustifyLine'. -/
def fnExactJustifyLineCard : Claim7 := { stood := { row := fnExactJustifyLineRow, standIns := [], harness := (true, "fc49e28df865865bbabe04210e12078495a57aa0053ed60342697f1b61f33244"), looks := false }, kinds := [], alts := [], laidByText := true, laidKinds := [.data, .pinned], laidTests := true, laidLooks := .later }
def FnExactJustifyLineCardSaid : Prop := Claim7.holds Tryd.pinned (.plain (OpenSpec.ofChange fnExactJustifyLineSpec)) fnExactJustifyLineCard

/-- THE TIED CARD OF 'laws.FnExactLetterAt'. -/
def fnExactLetterAtCard : Claim7 := { stood := { row := fnExactLetterAtRow, standIns := [], harness := (true, "fc49e28df865865bbabe04210e12078495a57aa0053ed60342697f1b61f33244"), looks := false }, kinds := [], alts := [], laidByText := true, laidKinds := [.data, .pinned], laidTests := true, laidLooks := .later }
def FnExactLetterAtCardSaid : Prop := Claim7.holds Tryd.pinned (.plain (OpenSpec.ofChange fnExactLetterAtSpec)) fnExactLetterAtCard

/-- THE TIED CARD OF 'laws.FnExactFillLetter'. -/
def fnExactFillLetterCard : Claim7 := { stood := { row := fnExactFillLetterRow, standIns := [], harness := (true, "fc49e28df865865bbabe04210e12078495a57aa0053ed60342697f1b61f33244"), looks := false }, kinds := [], alts := [], laidByText := true, laidKinds := [.data, .pinned], laidTests := true, laidLooks := .later }
def FnExactFillLetterCardSaid : Prop := Claim7.holds Tryd.pinned (.plain (OpenSpec.ofChange fnExactFillLetterSpec)) fnExactFillLetterCard

/-- THE TIED CARD OF 'laws.FnExactBestFill'. -/
def fnExactBestFillCard : Claim7 := { stood := { row := fnExactBestFillRow, standIns := [], harness := (true, "fc49e28df865865bbabe04210e12078495a57aa0053ed60342697f1b61f33244"), looks := false }, kinds := [], alts := [], laidByText := true, laidKinds := [.data, .pinned], laidTests := true, laidLooks := .later }
def FnExactBestFillCardSaid : Prop := Claim7.holds Tryd.pinned (.plain (OpenSpec.ofChange fnExactBestFillSpec)) fnExactBestFillCard

/-- THE TIED CARD OF 'laws.FnExactFillWord'. -/
def fnExactFillWordCard : Claim7 := { stood := { row := fnExactFillWordRow, standIns := [], harness := (true, "fc49e28df865865bbabe04210e12078495a57aa0053ed60342697f1b61f33244"), looks := false }, kinds := [], alts := [], laidByText := true, laidKinds := [.data, .pinned], laidTests := true, laidLooks := .later }
def FnExactFillWordCardSaid : Prop := Claim7.holds Tryd.pinned (.plain (OpenSpec.ofChange fnExactFillWordSpec)) fnExactFillWordCard

/-- THE TIED CARD OF 'laws.FnExactPriceOf'. -/
def fnExactPriceOfCard : Claim7 := { stood := { row := fnExactPriceOfRow, standIns := [], harness := (true, "fc49e28df865865bbabe04210e12078495a57aa0053ed60342697f1b61f33244"), looks := false }, kinds := [], alts := [], laidByText := true, laidKinds := [.data, .pinned], laidTests := true, laidLooks := .later }
def FnExactPriceOfCardSaid : Prop := Claim7.holds Tryd.pinned (.plain (OpenSpec.ofChange fnExactPriceOfSpec)) fnExactPriceOfCard

/-- THE TIED CARD OF 'laws.FnExactSheetBound'. -/
def fnExactSheetBoundCard : Claim7 := { stood := { row := fnExactSheetBoundRow, standIns := [], harness := (true, "fc49e28df865865bbabe04210e12078495a57aa0053ed60342697f1b61f33244"), looks := false }, kinds := [], alts := [], laidByText := true, laidKinds := [.data, .pinned], laidTests := true, laidLooks := .later }
def FnExactSheetBoundCardSaid : Prop := Claim7.holds Tryd.pinned (.plain (OpenSpec.ofChange fnExactSheetBoundSpec)) fnExactSheetBoundCard

/-- THE TIED CARD OF 'laws.FnExactPiecesFor'. -/
def fnExactPiecesForCard : Claim7 := { stood := { row := fnExactPiecesForRow, standIns := [], harness := (true, "fc49e28df865865bbabe04210e12078495a57aa0053ed60342697f1b61f33244"), looks := false }, kinds := [], alts := [], laidByText := true, laidKinds := [.data, .pinned], laidTests := true, laidLooks := .later }
def FnExactPiecesForCardSaid : Prop := Claim7.holds Tryd.pinned (.plain (OpenSpec.ofChange fnExactPiecesForSpec)) fnExactPiecesForCard

/-- THE TIED CARD OF 'laws.FnExactCheapestOf'. -/
def fnExactCheapestOfCard : Claim7 := { stood := { row := fnExactCheapestOfRow, standIns := [], harness := (true, "fc49e28df865865bbabe04210e12078495a57aa0053ed60342697f1b61f33244"), looks := false }, kinds := [], alts := [], laidByText := true, laidKinds := [.data, .pinned], laidTests := true, laidLooks := .later }
def FnExactCheapestOfCardSaid : Prop := Claim7.holds Tryd.pinned (.plain (OpenSpec.ofChange fnExactCheapestOfSpec)) fnExactCheapestOfCard

/-- THE TIED CARD OF 'laws.FnExactBestStone'. -/
def fnExactBestStoneCard : Claim7 := { stood := { row := fnExactBestStoneRow, standIns := [], harness := (true, "fc49e28df865865bbabe04210e12078495a57aa0053ed60342697f1b61f33244"), looks := false }, kinds := [], alts := [], laidByText := true, laidKinds := [.data, .pinned], laidTests := true, laidLooks := .later }
def FnExactBestStoneCardSaid : Prop := Claim7.holds Tryd.pinned (.plain (OpenSpec.ofChange fnExactBestStoneSpec)) fnExactBestStoneCard

/-- THE TIED CARD OF 'laws.FnExactBestShift'. -/
def fnExactBestShiftCard : Claim7 := { stood := { row := fnExactBestShiftRow, standIns := [], harness := (true, "fc49e28df865865bbabe04210e12078495a57aa0053ed60342697f1b61f33244"), looks := false }, kinds := [], alts := [], laidByText := true, laidKinds := [.data, .pinned], laidTests := true, laidLooks := .later }
def FnExactBestShiftCardSaid : Prop := Claim7.holds Tryd.pinned (.plain (OpenSpec.ofChange fnExactBestShiftSpec)) fnExactBestShiftCard

/-- THE SECOND FORM's CARD OF 'laws.FnExactWordWide'. -/
def fnExactWordWideUptoCard : Claim7 := { stood := { row := fnExactWordWideUptoRow, standIns := [], harness := (true, "fc49e28df865865bbabe04210e12078495a57aa0053ed60342697f1b61f33244"), looks := false }, kinds := [], alts := [], laidByText := true, laidKinds := [.data, .pinned], laidTests := true, laidLooks := .later }
def FnExactWordWideUptoCardSaid : Prop := Claim7.holds Tryd.pinned (.plain (OpenSpec.upto fnExactWordWideSpec)) fnExactWordWideUptoCard

/-- THE SECOND FORM's CARD OF 'laws.FnExactLineWide'. -/
def fnExactLineWideUptoCard : Claim7 := { stood := { row := fnExactLineWideUptoRow, standIns := [], harness := (true, "fc49e28df865865bbabe04210e12078495a57aa0053ed60342697f1b61f33244"), looks := false }, kinds := [], alts := [], laidByText := true, laidKinds := [.data, .pinned], laidTests := true, laidLooks := .later }
def FnExactLineWideUptoCardSaid : Prop := Claim7.holds Tryd.pinned (.plain (OpenSpec.upto fnExactLineWideSpec)) fnExactLineWideUptoCard

/-- THE SECOND FORM's CARD OF 'laws.FnExactCentreLine'. -/
def fnExactCentreLineUptoCard : Claim7 := { stood := { row := fnExactCentreLineUptoRow, standIns := [], harness := (true, "fc49e28df865865bbabe04210e12078495a57aa0053ed60342697f1b61f33244"), looks := false }, kinds := [], alts := [], laidByText := true, laidKinds := [.data, .pinned], laidTests := true, laidLooks := .later }
def FnExactCentreLineUptoCardSaid : Prop := Claim7.holds Tryd.pinned (.plain (OpenSpec.upto fnExactCentreLineSpec)) fnExactCentreLineUptoCard

/-- THE SECOND FORM's CARD OF 'laws.FnExactPlacesOf'. -/
def fnExactPlacesOfUptoCard : Claim7 := { stood := { row := fnExactPlacesOfUptoRow, standIns := [], harness := (true, "fc49e28df865865bbabe04210e12078495a57aa0053ed60342697f1b61f33244"), looks := false }, kinds := [], alts := [], laidByText := true, laidKinds := [.data, .pinned], laidTests := true, laidLooks := .later }
def FnExactPlacesOfUptoCardSaid : Prop := Claim7.holds Tryd.pinned (.plain (OpenSpec.upto fnExactPlacesOfSpec)) fnExactPlacesOfUptoCard

/-- THE SECOND FORM's CARD OF 'laws.FnExactJustifyLine'. -/
def fnExactJustifyLineUptoCard : Claim7 := { stood := { row := fnExactJustifyLineUptoRow, standIns := [], harness := (true, "fc49e28df865865bbabe04210e12078495a57aa0053ed60342697f1b61f33244"), looks := false }, kinds := [], alts := [], laidByText := true, laidKinds := [.data, .pinned], laidTests := true, laidLooks := .later }
def FnExactJustifyLineUptoCardSaid : Prop := Claim7.holds Tryd.pinned (.plain (OpenSpec.upto fnExactJustifyLineSpec)) fnExactJustifyLineUptoCard

/-- THE SECOND FORM's CARD OF 'laws.FnExactLetterAt'. -/
def fnExactLetterAtUptoCard : Claim7 := { stood := { row := fnExactLetterAtUptoRow, standIns := [], harness := (true, "fc49e28df865865bbabe04210e12078495a57aa0053ed60342697f1b61f33244"), looks := false }, kinds := [], alts := [], laidByText := true, laidKinds := [.data, .pinned], laidTests := true, laidLooks := .later }
def FnExactLetterAtUptoCardSaid : Prop := Claim7.holds Tryd.pinned (.plain (OpenSpec.upto fnExactLetterAtSpec)) fnExactLetterAtUptoCard

/-- THE SECOND FORM's CARD OF 'laws.FnExactFillLetter'. -/
def fnExactFillLetterUptoCard : Claim7 := { stood := { row := fnExactFillLetterUptoRow, standIns := [], harness := (true, "fc49e28df865865bbabe04210e12078495a57aa0053ed60342697f1b61f33244"), looks := false }, kinds := [], alts := [], laidByText := true, laidKinds := [.data, .pinned], laidTests := true, laidLooks := .later }
def FnExactFillLetterUptoCardSaid : Prop := Claim7.holds Tryd.pinned (.plain (OpenSpec.upto fnExactFillLetterSpec)) fnExactFillLetterUptoCard

/-- THE SECOND FORM's CARD OF 'laws.FnExactBestFill'. -/
def fnExactBestFillUptoCard : Claim7 := { stood := { row := fnExactBestFillUptoRow, standIns := [], harness := (true, "fc49e28df865865bbabe04210e12078495a57aa0053ed60342697f1b61f33244"), looks := false }, kinds := [], alts := [], laidByText := true, laidKinds := [.data, .pinned], laidTests := true, laidLooks := .later }
def FnExactBestFillUptoCardSaid : Prop := Claim7.holds Tryd.pinned (.plain (OpenSpec.upto fnExactBestFillSpec)) fnExactBestFillUptoCard

/-- THE SECOND FORM's CARD OF 'laws.FnExactFillWord'. -/
def fnExactFillWordUptoCard : Claim7 := { stood := { row := fnExactFillWordUptoRow, standIns := [], harness := (true, "fc49e28df865865bbabe04210e12078495a57aa0053ed60342697f1b61f33244"), looks := false }, kinds := [], alts := [], laidByText := true, laidKinds := [.data, .pinned], laidTests := true, laidLooks := .later }
def FnExactFillWordUptoCardSaid : Prop := Claim7.holds Tryd.pinned (.plain (OpenSpec.upto fnExactFillWordSpec)) fnExactFillWordUptoCard

/-- THE SECOND FORM's CARD OF 'laws.FnExactPriceOf'. -/
def fnExactPriceOfUptoCard : Claim7 := { stood := { row := fnExactPriceOfUptoRow, standIns := [], harness := (true, "fc49e28df865865bbabe04210e12078495a57aa0053ed60342697f1b61f33244"), looks := false }, kinds := [], alts := [], laidByText := true, laidKinds := [.data, .pinned], laidTests := true, laidLooks := .later }
def FnExactPriceOfUptoCardSaid : Prop := Claim7.holds Tryd.pinned (.plain (OpenSpec.upto fnExactPriceOfSpec)) fnExactPriceOfUptoCard

/-- THE SECOND FORM's CARD OF 'laws.FnExactSheetBound'. -/
def fnExactSheetBoundUptoCard : Claim7 := { stood := { row := fnExactSheetBoundUptoRow, standIns := [], harness := (true, "fc49e28df865865bbabe04210e12078495a57aa0053ed60342697f1b61f33244"), looks := false }, kinds := [], alts := [], laidByText := true, laidKinds := [.data, .pinned], laidTests := true, laidLooks := .later }
def FnExactSheetBoundUptoCardSaid : Prop := Claim7.holds Tryd.pinned (.plain (OpenSpec.upto fnExactSheetBoundSpec)) fnExactSheetBoundUptoCard

/-- THE SECOND FORM's CARD OF 'laws.FnExactPiecesFor'. -/
def fnExactPiecesForUptoCard : Claim7 := { stood := { row := fnExactPiecesForUptoRow, standIns := [], harness := (true, "fc49e28df865865bbabe04210e12078495a57aa0053ed60342697f1b61f33244"), looks := false }, kinds := [], alts := [], laidByText := true, laidKinds := [.data, .pinned], laidTests := true, laidLooks := .later }
def FnExactPiecesForUptoCardSaid : Prop := Claim7.holds Tryd.pinned (.plain (OpenSpec.upto fnExactPiecesForSpec)) fnExactPiecesForUptoCard

/-- THE SECOND FORM's CARD OF 'laws.FnExactCheapestOf'. -/
def fnExactCheapestOfUptoCard : Claim7 := { stood := { row := fnExactCheapestOfUptoRow, standIns := [], harness := (true, "fc49e28df865865bbabe04210e12078495a57aa0053ed60342697f1b61f33244"), looks := false }, kinds := [], alts := [], laidByText := true, laidKinds := [.data, .pinned], laidTests := true, laidLooks := .later }
def FnExactCheapestOfUptoCardSaid : Prop := Claim7.holds Tryd.pinned (.plain (OpenSpec.upto fnExactCheapestOfSpec)) fnExactCheapestOfUptoCard

/-- THE SECOND FORM's CARD OF 'laws.FnExactBestStone'. -/
def fnExactBestStoneUptoCard : Claim7 := { stood := { row := fnExactBestStoneUptoRow, standIns := [], harness := (true, "fc49e28df865865bbabe04210e12078495a57aa0053ed60342697f1b61f33244"), looks := false }, kinds := [], alts := [], laidByText := true, laidKinds := [.data, .pinned], laidTests := true, laidLooks := .later }
def FnExactBestStoneUptoCardSaid : Prop := Claim7.holds Tryd.pinned (.plain (OpenSpec.upto fnExactBestStoneSpec)) fnExactBestStoneUptoCard

/-- THE SECOND FORM's CARD OF 'laws.FnExactBestShift'. -/
def fnExactBestShiftUptoCard : Claim7 := { stood := { row := fnExactBestShiftUptoRow, standIns := [], harness := (true, "fc49e28df865865bbabe04210e12078495a57aa0053ed60342697f1b61f33244"), looks := false }, kinds := [], alts := [], laidByText := true, laidKinds := [.data, .pinned], laidTests := true, laidLooks := .later }
def FnExactBestShiftUptoCardSaid : Prop := Claim7.holds Tryd.pinned (.plain (OpenSpec.upto fnExactBestShiftSpec)) fnExactBestShiftUptoCard
end Rows
end Go.Proofs.YticjkfacdmmopaaDoor
