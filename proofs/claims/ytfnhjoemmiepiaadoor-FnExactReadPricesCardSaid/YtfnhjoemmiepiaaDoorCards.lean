/-
  DERIVED. GIVEN WITH THE SEED: THE CARDS: each row of YtfnhjoemmiepiaaDoorRows.lean that lists a variable, with what it lists TIED to the program's text (the seventh form; the later family's looks); each row that meets fmt, with fmt's text TOLD by the authors' own Lean function (tested against real Go, not proved from fmt's source: count such statements apart). THE CARD IS WHAT COUNTS. Prove the row's statement (the work); the ties are given (YtfnhjoemmiepiaaDoorTie.lean); close each card by the builder's one call (the guide's Derived/Test/ToyasCard.lean, 'card_holds'). Laid BY PROGRAM, IN A SANDBOX (cutbox-door.mjs). By AI agents, Wed Nov 11 2026. No macro, syntax, notation, axiom, sorry.
-/
import Derived.Test.YtfnhjoemmiepiaaDoorRows
import GoSem.ClaimSeven
namespace Go.Proofs.YtfnhjoemmiepiaaDoor
namespace Rows

/-- THE TIED CARD OF 'laws.FnExactLeastTime'. -/
def fnExactLeastTimeCard : Claim7 := { stood := { row := fnExactLeastTimeRow, standIns := [], harness := (true, "3140f77f83149937669824b5f036bbb3563cedc0ca3d92c97913f6e8a95d0f1b"), looks := true }, kinds := [], alts := [], laidByText := true, laidKinds := [.data, .pinned], laidTests := true, laidLooks := .later }
def FnExactLeastTimeCardSaid : Prop := Claim7.holds Tryd.pinned (.plain (OpenSpec.ofChange fnExactLeastTimeSpec)) fnExactLeastTimeCard

/-- THE TIED CARD OF 'laws.FnExactBestChisel'. -/
def fnExactBestChiselCard : Claim7 := { stood := { row := fnExactBestChiselRow, standIns := [], harness := (true, "3140f77f83149937669824b5f036bbb3563cedc0ca3d92c97913f6e8a95d0f1b"), looks := true }, kinds := [], alts := [], laidByText := true, laidKinds := [.data, .pinned], laidTests := true, laidLooks := .later }
def FnExactBestChiselCardSaid : Prop := Claim7.holds Tryd.pinned (.plain (OpenSpec.ofChange fnExactBestChiselSpec)) fnExactBestChiselCard

/-- THE TIED CARD OF 'laws.FnExactReadPrices'. -/
def fnExactReadPricesCard : Claim7 := { stood := { row := fnExactReadPricesRow, standIns := [], harness := (true, "3140f77f83149937669824b5f036bbb3563cedc0ca3d92c97913f6e8a95d0f1b"), looks := true }, kinds := [], alts := [], laidByText := true, laidKinds := [.data, .data, .data, .data, .sentinel, .sentinel, .pinned], laidTests := true, laidLooks := .later }
def FnExactReadPricesCardSaid : Prop := Claim7.holds Tryd.pinned (.plain (OpenSpec.ofChange fnExactReadPricesSpec)) fnExactReadPricesCard

/-- THE TIED CARD OF 'laws.FnExactReadStrokes'. -/
def fnExactReadStrokesCard : Claim7 := { stood := { row := fnExactReadStrokesRow, standIns := [], harness := (true, "3140f77f83149937669824b5f036bbb3563cedc0ca3d92c97913f6e8a95d0f1b"), looks := true }, kinds := [], alts := [], laidByText := true, laidKinds := [.data, .data, .data, .data, .sentinel, .sentinel, .pinned], laidTests := true, laidLooks := .later }
def FnExactReadStrokesCardSaid : Prop := Claim7.holds Tryd.pinned (.plain (OpenSpec.ofChange fnExactReadStrokesSpec)) fnExactReadStrokesCard

/-- THE SECOND FORM's CARD OF 'laws.FnExactLeastTime'. -/
def fnExactLeastTimeUptoCard : Claim7 := { stood := { row := fnExactLeastTimeUptoRow, standIns := [], harness := (true, "3140f77f83149937669824b5f036bbb3563cedc0ca3d92c97913f6e8a95d0f1b"), looks := true }, kinds := [], alts := [], laidByText := true, laidKinds := [.data, .pinned], laidTests := true, laidLooks := .later }
def FnExactLeastTimeUptoCardSaid : Prop := Claim7.holds Tryd.pinned (.plain (OpenSpec.upto fnExactLeastTimeSpec)) fnExactLeastTimeUptoCard

/-- THE SECOND FORM's CARD OF 'laws.FnExactBestChisel'. -/
def fnExactBestChiselUptoCard : Claim7 := { stood := { row := fnExactBestChiselUptoRow, standIns := [], harness := (true, "3140f77f83149937669824b5f036bbb3563cedc0ca3d92c97913f6e8a95d0f1b"), looks := true }, kinds := [], alts := [], laidByText := true, laidKinds := [.data, .pinned], laidTests := true, laidLooks := .later }
def FnExactBestChiselUptoCardSaid : Prop := Claim7.holds Tryd.pinned (.plain (OpenSpec.upto fnExactBestChiselSpec)) fnExactBestChiselUptoCard

/-- THE SECOND FORM's CARD OF 'laws.FnExactReadPrices'. -/
def fnExactReadPricesUptoCard : Claim7 := { stood := { row := fnExactReadPricesUptoRow, standIns := [], harness := (true, "3140f77f83149937669824b5f036bbb3563cedc0ca3d92c97913f6e8a95d0f1b"), looks := true }, kinds := [], alts := [], laidByText := true, laidKinds := [.data, .data, .data, .data, .sentinel, .sentinel, .pinned], laidTests := true, laidLooks := .later }
def FnExactReadPricesUptoCardSaid : Prop := Claim7.holds Tryd.pinned (.plain (OpenSpec.upto fnExactReadPricesSpec)) fnExactReadPricesUptoCard

/-- THE SECOND FORM's CARD OF 'laws.FnExactReadStrokes'. -/
def fnExactReadStrokesUptoCard : Claim7 := { stood := { row := fnExactReadStrokesUptoRow, standIns := [], harness := (true, "3140f77f83149937669824b5f036bbb3563cedc0ca3d92c97913f6e8a95d0f1b"), looks := true }, kinds := [], alts := [], laidByText := true, laidKinds := [.data, .data, .data, .data, .sentinel, .sentinel, .pinned], laidTests := true, laidLooks := .later }
def FnExactReadStrokesUptoCardSaid : Prop := Claim7.holds Tryd.pinned (.plain (OpenSpec.upto fnExactReadStrokesSpec)) fnExactReadStrokesUptoCard
end Rows
end Go.Proofs.YtfnhjoemmiepiaaDoor
