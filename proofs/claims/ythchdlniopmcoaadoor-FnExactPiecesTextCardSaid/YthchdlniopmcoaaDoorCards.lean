/-
  DERIVED. GIVEN WITH THE SEED: THE CARDS: each row of YthchdlniopmcoaaDoorRows.lean that lists a variable, with what it lists TIED to the program's text (the seventh form; the later family's looks); each row that meets fmt, with fmt's text TOLD by the authors' own Lean function (tested against real Go, not proved from fmt's source: count such statements apart). THE CARD IS WHAT COUNTS. Prove the row's statement (the work); the ties are given (YthchdlniopmcoaaDoorTie.lean); close each card by the builder's one call (the guide's Derived/Test/ToyasCard.lean, 'card_holds'). Laid BY PROGRAM, IN A SANDBOX (cutbox-door.mjs). By AI agents, Wed Nov 11 2026. No macro, syntax, notation, axiom, sorry.
-/
import Derived.Test.YthchdlniopmcoaaDoorRows
import GoSem.ClaimSeven
namespace Go.Proofs.YthchdlniopmcoaaDoor
namespace Rows

/-- THE TIED CARD OF 'laws.FnExactRowsThat'. -/
def fnExactRowsThatCard : Claim7 := { stood := { row := fnExactRowsThatRow, standIns := [], harness := (true, "926cadbeb54d8547048d0546b6bef6bdd47edb8efc3827a77c300d89f128aad0"), looks := true }, kinds := [], alts := [], laidByText := true, laidKinds := [.data, .pinned], laidTests := true, laidLooks := .later }
def FnExactRowsThatCardSaid : Prop := Claim7.holds Tryd.pinned (.plain (OpenSpec.ofChange fnExactRowsThatSpec)) fnExactRowsThatCard

/-- THE TIED CARD OF 'laws.FnExactPiecesText'. -/
def fnExactPiecesTextCard : Claim7 := { stood := { row := fnExactPiecesTextRow, standIns := [], harness := (true, "926cadbeb54d8547048d0546b6bef6bdd47edb8efc3827a77c300d89f128aad0"), looks := true }, kinds := [], alts := [], laidByText := true, laidKinds := [.data, .data, .data, .data, .pinned], laidTests := true, laidLooks := .later }
def FnExactPiecesTextCardSaid : Prop := Claim7.holds Tryd.pinned (.plain (OpenSpec.ofChange fnExactPiecesTextSpec)) fnExactPiecesTextCard

/-- THE TIED CARD OF 'laws.FnExactReadPieces'. -/
def fnExactReadPiecesCard : Claim7 := { stood := { row := fnExactReadPiecesRow, standIns := [], harness := (true, "926cadbeb54d8547048d0546b6bef6bdd47edb8efc3827a77c300d89f128aad0"), looks := true }, kinds := [], alts := [], laidByText := true, laidKinds := [.data, .data, .data, .data, .sentinel, .sentinel, .pinned], laidTests := true, laidLooks := .later }
def FnExactReadPiecesCardSaid : Prop := Claim7.holds Tryd.pinned (.plain (OpenSpec.ofChange fnExactReadPiecesSpec)) fnExactReadPiecesCard

/-- THE SECOND FORM's CARD OF 'laws.FnExactRowsThat'. -/
def fnExactRowsThatUptoCard : Claim7 := { stood := { row := fnExactRowsThatUptoRow, standIns := [], harness := (true, "926cadbeb54d8547048d0546b6bef6bdd47edb8efc3827a77c300d89f128aad0"), looks := true }, kinds := [], alts := [], laidByText := true, laidKinds := [.data, .pinned], laidTests := true, laidLooks := .later }
def FnExactRowsThatUptoCardSaid : Prop := Claim7.holds Tryd.pinned (.plain (OpenSpec.upto fnExactRowsThatSpec)) fnExactRowsThatUptoCard

/-- THE SECOND FORM's CARD OF 'laws.FnExactPiecesText'. -/
def fnExactPiecesTextUptoCard : Claim7 := { stood := { row := fnExactPiecesTextUptoRow, standIns := [], harness := (true, "926cadbeb54d8547048d0546b6bef6bdd47edb8efc3827a77c300d89f128aad0"), looks := true }, kinds := [], alts := [], laidByText := true, laidKinds := [.data, .data, .data, .data, .pinned], laidTests := true, laidLooks := .later }
def FnExactPiecesTextUptoCardSaid : Prop := Claim7.holds Tryd.pinned (.plain (OpenSpec.upto fnExactPiecesTextSpec)) fnExactPiecesTextUptoCard

/-- THE SECOND FORM's CARD OF 'laws.FnExactReadPieces'. -/
def fnExactReadPiecesUptoCard : Claim7 := { stood := { row := fnExactReadPiecesUptoRow, standIns := [], harness := (true, "926cadbeb54d8547048d0546b6bef6bdd47edb8efc3827a77c300d89f128aad0"), looks := true }, kinds := [], alts := [], laidByText := true, laidKinds := [.data, .data, .data, .data, .sentinel, .sentinel, .pinned], laidTests := true, laidLooks := .later }
def FnExactReadPiecesUptoCardSaid : Prop := Claim7.holds Tryd.pinned (.plain (OpenSpec.upto fnExactReadPiecesSpec)) fnExactReadPiecesUptoCard
end Rows
end Go.Proofs.YthchdlniopmcoaaDoor
