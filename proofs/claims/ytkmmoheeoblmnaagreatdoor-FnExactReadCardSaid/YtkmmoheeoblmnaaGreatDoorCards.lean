/-
  DERIVED. GIVEN WITH THE SEED: THE CARDS: each row of YtkmmoheeoblmnaaGreatDoorRows.lean that lists a variable, with what it lists TIED to the program's text (the seventh form; the later family's looks); each row that meets fmt, with fmt's text TOLD by the authors' own Lean function (tested against real Go, not proved from fmt's source: count such statements apart). THE CARD IS WHAT COUNTS. Prove the row's statement (the work); the ties are given (YtkmmoheeoblmnaaGreatDoorTie.lean); close each card by the builder's one call (the guide's Derived/Test/ToyasCard.lean, 'card_holds'). Laid BY PROGRAM, IN A SANDBOX (cutbox-door.mjs). By AI agents, Wed Nov 11 2026. No macro, syntax, notation, axiom, sorry.
-/
import Derived.Test.YtkmmoheeoblmnaaGreatDoorRows
import GoSem.ClaimSeven
namespace Go.Proofs.YtkmmoheeoblmnaaGreatDoor
namespace Rows

/-- THE TIED CARD OF 'laws.FnPieces'. -/
def fnPiecesCard : Claim7 := { stood := { row := fnPiecesRow, standIns := [], harness := (true, "f3755c43c6bab4b403e5eb2320711d159cc7457269620c1d9078f60dbb1d9412"), looks := true }, kinds := [], alts := [], laidByText := true, laidKinds := [.data, .data, .data, .data, .sentinel, .sentinel, .pinned], laidTests := true, laidLooks := .later }
def FnPiecesCardSaid : Prop := Claim7.holds Tryz.pinned (.plain (OpenSpec.ofChange fnPiecesSpec)) fnPiecesCard

/-- THE TIED CARD OF 'laws.FnExactWell'. -/
def fnExactWellCard : Claim7 := { stood := { row := fnExactWellRow, standIns := [], harness := (true, "f3755c43c6bab4b403e5eb2320711d159cc7457269620c1d9078f60dbb1d9412"), looks := true }, kinds := [], alts := [], laidByText := true, laidKinds := [.data, .data, .data, .sentinel, .sentinel], laidTests := true, laidLooks := .later }
def FnExactWellCardSaid : Prop := Claim7.holds Tryz.pinned (.plain (OpenSpec.ofChange fnExactWellSpec)) fnExactWellCard

/-- THE TIED CARD OF 'laws.FnExactReadEl'. -/
def fnExactReadElCard : Claim7 := { stood := { row := fnExactReadElRow, standIns := [], harness := (true, "f3755c43c6bab4b403e5eb2320711d159cc7457269620c1d9078f60dbb1d9412"), looks := true }, kinds := [], alts := [], laidByText := true, laidKinds := [.data, .data, .data, .sentinel, .sentinel], laidTests := true, laidLooks := .later }
def FnExactReadElCardSaid : Prop := Claim7.holds Tryz.pinned (.plain (OpenSpec.ofChange fnExactReadElSpec)) fnExactReadElCard

/-- THE TIED CARD OF 'laws.FnExactRead'. -/
def fnExactReadCard : Claim7 := { stood := { row := fnExactReadRow, standIns := [], harness := (true, "f3755c43c6bab4b403e5eb2320711d159cc7457269620c1d9078f60dbb1d9412"), looks := true }, kinds := [], alts := [], laidByText := true, laidKinds := [.data, .data, .data, .sentinel, .sentinel], laidTests := true, laidLooks := .later }
def FnExactReadCardSaid : Prop := Claim7.holds Tryz.pinned (.plain (OpenSpec.ofChange fnExactReadSpec)) fnExactReadCard

/-- THE TIED CARD OF 'laws.FnExactAgain'. -/
def fnExactAgainCard : Claim7 := { stood := { row := fnExactAgainRow, standIns := [], harness := (true, "f3755c43c6bab4b403e5eb2320711d159cc7457269620c1d9078f60dbb1d9412"), looks := true }, kinds := [], alts := [], laidByText := true, laidKinds := [.data, .data, .data, .data, .sentinel, .sentinel, .pinned], laidTests := true, laidLooks := .later }
def FnExactAgainCardSaid : Prop := Claim7.holds Tryz.pinned (.plain (OpenSpec.ofChange fnExactAgainSpec)) fnExactAgainCard

/-- THE SECOND FORM's CARD OF 'laws.FnPieces'. -/
def fnPiecesUptoCard : Claim7 := { stood := { row := fnPiecesUptoRow, standIns := [], harness := (true, "f3755c43c6bab4b403e5eb2320711d159cc7457269620c1d9078f60dbb1d9412"), looks := true }, kinds := [], alts := [], laidByText := true, laidKinds := [.data, .data, .data, .data, .sentinel, .sentinel, .pinned], laidTests := true, laidLooks := .later }
def FnPiecesUptoCardSaid : Prop := Claim7.holds Tryz.pinned (.plain (OpenSpec.upto fnPiecesSpec)) fnPiecesUptoCard

/-- THE SECOND FORM's CARD OF 'laws.FnExactWell'. -/
def fnExactWellUptoCard : Claim7 := { stood := { row := fnExactWellUptoRow, standIns := [], harness := (true, "f3755c43c6bab4b403e5eb2320711d159cc7457269620c1d9078f60dbb1d9412"), looks := true }, kinds := [], alts := [], laidByText := true, laidKinds := [.data, .data, .data, .sentinel, .sentinel], laidTests := true, laidLooks := .later }
def FnExactWellUptoCardSaid : Prop := Claim7.holds Tryz.pinned (.plain (OpenSpec.upto fnExactWellSpec)) fnExactWellUptoCard

/-- THE SECOND FORM's CARD OF 'laws.FnExactReadEl'. -/
def fnExactReadElUptoCard : Claim7 := { stood := { row := fnExactReadElUptoRow, standIns := [], harness := (true, "f3755c43c6bab4b403e5eb2320711d159cc7457269620c1d9078f60dbb1d9412"), looks := true }, kinds := [], alts := [], laidByText := true, laidKinds := [.data, .data, .data, .sentinel, .sentinel], laidTests := true, laidLooks := .later }
def FnExactReadElUptoCardSaid : Prop := Claim7.holds Tryz.pinned (.plain (OpenSpec.upto fnExactReadElSpec)) fnExactReadElUptoCard

/-- THE SECOND FORM's CARD OF 'laws.FnExactRead'. -/
def fnExactReadUptoCard : Claim7 := { stood := { row := fnExactReadUptoRow, standIns := [], harness := (true, "f3755c43c6bab4b403e5eb2320711d159cc7457269620c1d9078f60dbb1d9412"), looks := true }, kinds := [], alts := [], laidByText := true, laidKinds := [.data, .data, .data, .sentinel, .sentinel], laidTests := true, laidLooks := .later }
def FnExactReadUptoCardSaid : Prop := Claim7.holds Tryz.pinned (.plain (OpenSpec.upto fnExactReadSpec)) fnExactReadUptoCard

/-- THE SECOND FORM's CARD OF 'laws.FnExactAgain'. -/
def fnExactAgainUptoCard : Claim7 := { stood := { row := fnExactAgainUptoRow, standIns := [], harness := (true, "f3755c43c6bab4b403e5eb2320711d159cc7457269620c1d9078f60dbb1d9412"), looks := true }, kinds := [], alts := [], laidByText := true, laidKinds := [.data, .data, .data, .data, .sentinel, .sentinel, .pinned], laidTests := true, laidLooks := .later }
def FnExactAgainUptoCardSaid : Prop := Claim7.holds Tryz.pinned (.plain (OpenSpec.upto fnExactAgainSpec)) fnExactAgainUptoCard
end Rows
end Go.Proofs.YtkmmoheeoblmnaaGreatDoor
