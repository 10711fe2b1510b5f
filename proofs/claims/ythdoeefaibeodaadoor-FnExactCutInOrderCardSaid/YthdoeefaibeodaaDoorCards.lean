/-
  DERIVED. GIVEN WITH THE SEED: THE CARDS: each row of YthdoeefaibeodaaDoorRows.lean that lists a variable, with what it lists TIED to the program's text (the seventh form; the later family's looks); each row that meets fmt, with fmt's text TOLD by the authors' own Lean function (tested against real Go, not proved from fmt's source: count such statements apart). THE CARD IS WHAT COUNTS. Prove the row's statement (the work); the ties are given (YthdoeefaibeodaaDoorTie.lean); close each card by the builder's one call (the guide's Derived/Test/ToyasCard.lean, 'card_holds'). Laid BY PROGRAM, IN A SANDBOX (cutbox-door.mjs). By AI agents, Wed Nov 11 2026. No macro, syntax, notation, axiom, sorry.
-/
import Derived.Test.YthdoeefaibeodaaDoorRows
import GoSem.ClaimSeven
namespace Go.Proofs.YthdoeefaibeodaaDoor
namespace Rows

/-- THE TIED CARD OF 'laws.FnExactStrokesText'. -/
def fnExactStrokesTextCard : Claim7 := { stood := { row := fnExactStrokesTextRow, standIns := [], harness := (true, "4f0a8747a4c69e5432bc84b115c6827021a7aca860566bc563ec2975d0899d19"), looks := true }, kinds := [], alts := [], laidByText := true, laidKinds := [.data, .data, .data], laidTests := true, laidLooks := .later }
def FnExactStrokesTextCardSaid : Prop := Claim7.holds Tryd.pinned (.plain (OpenSpec.ofChange fnExactStrokesTextSpec)) fnExactStrokesTextCard

/-- THE TIED CARD OF 'laws.FnExactPricesText'. -/
def fnExactPricesTextCard : Claim7 := { stood := { row := fnExactPricesTextRow, standIns := [], harness := (true, "4f0a8747a4c69e5432bc84b115c6827021a7aca860566bc563ec2975d0899d19"), looks := true }, kinds := [], alts := [], laidByText := true, laidKinds := [.data, .data, .data], laidTests := true, laidLooks := .later }
def FnExactPricesTextCardSaid : Prop := Claim7.holds Tryd.pinned (.plain (OpenSpec.ofChange fnExactPricesTextSpec)) fnExactPricesTextCard

/-- THE TIED CARD OF 'laws.FnExactReadStrokes'. -/
def fnExactReadStrokesCard : Claim7 := { stood := { row := fnExactReadStrokesRow, standIns := [], harness := (true, "4f0a8747a4c69e5432bc84b115c6827021a7aca860566bc563ec2975d0899d19"), looks := true }, kinds := [], alts := [], laidByText := true, laidKinds := [.data, .data, .data, .data, .sentinel, .sentinel, .pinned], laidTests := true, laidLooks := .later }
def FnExactReadStrokesCardSaid : Prop := Claim7.holds Tryd.pinned (.plain (OpenSpec.ofChange fnExactReadStrokesSpec)) fnExactReadStrokesCard

/-- THE TIED CARD OF 'laws.FnExactReadPrices'. -/
def fnExactReadPricesCard : Claim7 := { stood := { row := fnExactReadPricesRow, standIns := [], harness := (true, "4f0a8747a4c69e5432bc84b115c6827021a7aca860566bc563ec2975d0899d19"), looks := true }, kinds := [], alts := [], laidByText := true, laidKinds := [.data, .data, .data, .data, .sentinel, .sentinel, .pinned], laidTests := true, laidLooks := .later }
def FnExactReadPricesCardSaid : Prop := Claim7.holds Tryd.pinned (.plain (OpenSpec.ofChange fnExactReadPricesSpec)) fnExactReadPricesCard

/-- THE TIED CARD OF 'laws.FnExactStrokesOf'. -/
def fnExactStrokesOfCard : Claim7 := { stood := { row := fnExactStrokesOfRow, standIns := [], harness := (true, "4f0a8747a4c69e5432bc84b115c6827021a7aca860566bc563ec2975d0899d19"), looks := true }, kinds := [], alts := [], laidByText := true, laidKinds := [.data, .pinned], laidTests := true, laidLooks := .later }
def FnExactStrokesOfCardSaid : Prop := Claim7.holds Tryd.pinned (.plain (OpenSpec.ofChange fnExactStrokesOfSpec)) fnExactStrokesOfCard

/-- THE TIED CARD OF 'laws.FnExactMiddleOut'. -/
def fnExactMiddleOutCard : Claim7 := { stood := { row := fnExactMiddleOutRow, standIns := [], harness := (true, "4f0a8747a4c69e5432bc84b115c6827021a7aca860566bc563ec2975d0899d19"), looks := true }, kinds := [], alts := [], laidByText := true, laidKinds := [.data, .pinned], laidTests := true, laidLooks := .later }
def FnExactMiddleOutCardSaid : Prop := Claim7.holds Tryd.pinned (.plain (OpenSpec.ofChange fnExactMiddleOutSpec)) fnExactMiddleOutCard

/-- THE TIED CARD OF 'laws.FnExactTimeFor'. -/
def fnExactTimeForCard : Claim7 := { stood := { row := fnExactTimeForRow, standIns := [], harness := (true, "4f0a8747a4c69e5432bc84b115c6827021a7aca860566bc563ec2975d0899d19"), looks := true }, kinds := [], alts := [], laidByText := true, laidKinds := [.data, .pinned], laidTests := true, laidLooks := .later }
def FnExactTimeForCardSaid : Prop := Claim7.holds Tryd.pinned (.plain (OpenSpec.ofChange fnExactTimeForSpec)) fnExactTimeForCard

/-- THE TIED CARD OF 'laws.FnExactSharpensFor'. -/
def fnExactSharpensForCard : Claim7 := { stood := { row := fnExactSharpensForRow, standIns := [], harness := (true, "4f0a8747a4c69e5432bc84b115c6827021a7aca860566bc563ec2975d0899d19"), looks := true }, kinds := [], alts := [], laidByText := true, laidKinds := [.data, .pinned], laidTests := true, laidLooks := .later }
def FnExactSharpensForCardSaid : Prop := Claim7.holds Tryd.pinned (.plain (OpenSpec.ofChange fnExactSharpensForSpec)) fnExactSharpensForCard

/-- THE TIED CARD OF 'laws.FnExactCutUntil'. -/
def fnExactCutUntilCard : Claim7 := { stood := { row := fnExactCutUntilRow, standIns := [], harness := (true, "4f0a8747a4c69e5432bc84b115c6827021a7aca860566bc563ec2975d0899d19"), looks := true }, kinds := [], alts := [], laidByText := true, laidKinds := [.data, .pinned], laidTests := true, laidLooks := .later }
def FnExactCutUntilCardSaid : Prop := Claim7.holds Tryd.pinned (.plain (OpenSpec.ofChange fnExactCutUntilSpec)) fnExactCutUntilCard

/-- THE TIED CARD OF 'laws.FnExactLeastTime'. -/
def fnExactLeastTimeCard : Claim7 := { stood := { row := fnExactLeastTimeRow, standIns := [], harness := (true, "4f0a8747a4c69e5432bc84b115c6827021a7aca860566bc563ec2975d0899d19"), looks := true }, kinds := [], alts := [], laidByText := true, laidKinds := [.data, .pinned], laidTests := true, laidLooks := .later }
def FnExactLeastTimeCardSaid : Prop := Claim7.holds Tryd.pinned (.plain (OpenSpec.ofChange fnExactLeastTimeSpec)) fnExactLeastTimeCard

/-- THE TIED CARD OF 'laws.FnExactBestChisel'. -/
def fnExactBestChiselCard : Claim7 := { stood := { row := fnExactBestChiselRow, standIns := [], harness := (true, "4f0a8747a4c69e5432bc84b115c6827021a7aca860566bc563ec2975d0899d19"), looks := true }, kinds := [], alts := [], laidByText := true, laidKinds := [.data, .pinned], laidTests := true, laidLooks := .later }
def FnExactBestChiselCardSaid : Prop := Claim7.holds Tryd.pinned (.plain (OpenSpec.ofChange fnExactBestChiselSpec)) fnExactBestChiselCard

/-- THE TIED CARD OF 'laws.FnExactCutInOrder'. -/
def fnExactCutInOrderCard : Claim7 := { stood := { row := fnExactCutInOrderRow, standIns := [], harness := (true, "4f0a8747a4c69e5432bc84b115c6827021a7aca860566bc563ec2975d0899d19"), looks := true }, kinds := [], alts := [], laidByText := true, laidKinds := [.data, .pinned], laidTests := true, laidLooks := .later }
def FnExactCutInOrderCardSaid : Prop := Claim7.holds Tryd.pinned (.plain (OpenSpec.ofChange fnExactCutInOrderSpec)) fnExactCutInOrderCard

/-- THE SECOND FORM's CARD OF 'laws.FnExactStrokesText'. -/
def fnExactStrokesTextUptoCard : Claim7 := { stood := { row := fnExactStrokesTextUptoRow, standIns := [], harness := (true, "4f0a8747a4c69e5432bc84b115c6827021a7aca860566bc563ec2975d0899d19"), looks := true }, kinds := [], alts := [], laidByText := true, laidKinds := [.data, .data, .data], laidTests := true, laidLooks := .later }
def FnExactStrokesTextUptoCardSaid : Prop := Claim7.holds Tryd.pinned (.plain (OpenSpec.upto fnExactStrokesTextSpec)) fnExactStrokesTextUptoCard

/-- THE SECOND FORM's CARD OF 'laws.FnExactPricesText'. -/
def fnExactPricesTextUptoCard : Claim7 := { stood := { row := fnExactPricesTextUptoRow, standIns := [], harness := (true, "4f0a8747a4c69e5432bc84b115c6827021a7aca860566bc563ec2975d0899d19"), looks := true }, kinds := [], alts := [], laidByText := true, laidKinds := [.data, .data, .data], laidTests := true, laidLooks := .later }
def FnExactPricesTextUptoCardSaid : Prop := Claim7.holds Tryd.pinned (.plain (OpenSpec.upto fnExactPricesTextSpec)) fnExactPricesTextUptoCard

/-- THE SECOND FORM's CARD OF 'laws.FnExactReadStrokes'. -/
def fnExactReadStrokesUptoCard : Claim7 := { stood := { row := fnExactReadStrokesUptoRow, standIns := [], harness := (true, "4f0a8747a4c69e5432bc84b115c6827021a7aca860566bc563ec2975d0899d19"), looks := true }, kinds := [], alts := [], laidByText := true, laidKinds := [.data, .data, .data, .data, .sentinel, .sentinel, .pinned], laidTests := true, laidLooks := .later }
def FnExactReadStrokesUptoCardSaid : Prop := Claim7.holds Tryd.pinned (.plain (OpenSpec.upto fnExactReadStrokesSpec)) fnExactReadStrokesUptoCard

/-- THE SECOND FORM's CARD OF 'laws.FnExactReadPrices'. -/
def fnExactReadPricesUptoCard : Claim7 := { stood := { row := fnExactReadPricesUptoRow, standIns := [], harness := (true, "4f0a8747a4c69e5432bc84b115c6827021a7aca860566bc563ec2975d0899d19"), looks := true }, kinds := [], alts := [], laidByText := true, laidKinds := [.data, .data, .data, .data, .sentinel, .sentinel, .pinned], laidTests := true, laidLooks := .later }
def FnExactReadPricesUptoCardSaid : Prop := Claim7.holds Tryd.pinned (.plain (OpenSpec.upto fnExactReadPricesSpec)) fnExactReadPricesUptoCard

/-- THE SECOND FORM's CARD OF 'laws.FnExactStrokesOf'. -/
def fnExactStrokesOfUptoCard : Claim7 := { stood := { row := fnExactStrokesOfUptoRow, standIns := [], harness := (true, "4f0a8747a4c69e5432bc84b115c6827021a7aca860566bc563ec2975d0899d19"), looks := true }, kinds := [], alts := [], laidByText := true, laidKinds := [.data, .pinned], laidTests := true, laidLooks := .later }
def FnExactStrokesOfUptoCardSaid : Prop := Claim7.holds Tryd.pinned (.plain (OpenSpec.upto fnExactStrokesOfSpec)) fnExactStrokesOfUptoCard

/-- THE SECOND FORM's CARD OF 'laws.FnExactMiddleOut'. -/
def fnExactMiddleOutUptoCard : Claim7 := { stood := { row := fnExactMiddleOutUptoRow, standIns := [], harness := (true, "4f0a8747a4c69e5432bc84b115c6827021a7aca860566bc563ec2975d0899d19"), looks := true }, kinds := [], alts := [], laidByText := true, laidKinds := [.data, .pinned], laidTests := true, laidLooks := .later }
def FnExactMiddleOutUptoCardSaid : Prop := Claim7.holds Tryd.pinned (.plain (OpenSpec.upto fnExactMiddleOutSpec)) fnExactMiddleOutUptoCard

/-- THE SECOND FORM's CARD OF 'laws.FnExactTimeFor'. -/
def fnExactTimeForUptoCard : Claim7 := { stood := { row := fnExactTimeForUptoRow, standIns := [], harness := (true, "4f0a8747a4c69e5432bc84b115c6827021a7aca860566bc563ec2975d0899d19"), looks := true }, kinds := [], alts := [], laidByText := true, laidKinds := [.data, .pinned], laidTests := true, laidLooks := .later }
def FnExactTimeForUptoCardSaid : Prop := Claim7.holds Tryd.pinned (.plain (OpenSpec.upto fnExactTimeForSpec)) fnExactTimeForUptoCard

/-- THE SECOND FORM's CARD OF 'laws.FnExactSharpensFor'. -/
def fnExactSharpensForUptoCard : Claim7 := { stood := { row := fnExactSharpensForUptoRow, standIns := [], harness := (true, "4f0a8747a4c69e5432bc84b115c6827021a7aca860566bc563ec2975d0899d19"), looks := true }, kinds := [], alts := [], laidByText := true, laidKinds := [.data, .pinned], laidTests := true, laidLooks := .later }
def FnExactSharpensForUptoCardSaid : Prop := Claim7.holds Tryd.pinned (.plain (OpenSpec.upto fnExactSharpensForSpec)) fnExactSharpensForUptoCard

/-- THE SECOND FORM's CARD OF 'laws.FnExactCutUntil'. -/
def fnExactCutUntilUptoCard : Claim7 := { stood := { row := fnExactCutUntilUptoRow, standIns := [], harness := (true, "4f0a8747a4c69e5432bc84b115c6827021a7aca860566bc563ec2975d0899d19"), looks := true }, kinds := [], alts := [], laidByText := true, laidKinds := [.data, .pinned], laidTests := true, laidLooks := .later }
def FnExactCutUntilUptoCardSaid : Prop := Claim7.holds Tryd.pinned (.plain (OpenSpec.upto fnExactCutUntilSpec)) fnExactCutUntilUptoCard

/-- THE SECOND FORM's CARD OF 'laws.FnExactLeastTime'. -/
def fnExactLeastTimeUptoCard : Claim7 := { stood := { row := fnExactLeastTimeUptoRow, standIns := [], harness := (true, "4f0a8747a4c69e5432bc84b115c6827021a7aca860566bc563ec2975d0899d19"), looks := true }, kinds := [], alts := [], laidByText := true, laidKinds := [.data, .pinned], laidTests := true, laidLooks := .later }
def FnExactLeastTimeUptoCardSaid : Prop := Claim7.holds Tryd.pinned (.plain (OpenSpec.upto fnExactLeastTimeSpec)) fnExactLeastTimeUptoCard

/-- THE SECOND FORM's CARD OF 'laws.FnExactBestChisel'. -/
def fnExactBestChiselUptoCard : Claim7 := { stood := { row := fnExactBestChiselUptoRow, standIns := [], harness := (true, "4f0a8747a4c69e5432bc84b115c6827021a7aca860566bc563ec2975d0899d19"), looks := true }, kinds := [], alts := [], laidByText := true, laidKinds := [.data, .pinned], laidTests := true, laidLooks := .later }
def FnExactBestChiselUptoCardSaid : Prop := Claim7.holds Tryd.pinned (.plain (OpenSpec.upto fnExactBestChiselSpec)) fnExactBestChiselUptoCard

/-- THE SECOND FORM's CARD OF 'laws.FnExactCutInOrder'. -/
def fnExactCutInOrderUptoCard : Claim7 := { stood := { row := fnExactCutInOrderUptoRow, standIns := [], harness := (true, "4f0a8747a4c69e5432bc84b115c6827021a7aca860566bc563ec2975d0899d19"), looks := true }, kinds := [], alts := [], laidByText := true, laidKinds := [.data, .pinned], laidTests := true, laidLooks := .later }
def FnExactCutInOrderUptoCardSaid : Prop := Claim7.holds Tryd.pinned (.plain (OpenSpec.upto fnExactCutInOrderSpec)) fnExactCutInOrderUptoCard
end Rows
end Go.Proofs.YthdoeefaibeodaaDoor
