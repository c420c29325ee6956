/-
  DERIVED. GIVEN WITH THE SEED: THE CARDS: each row of YtkmmoheeoblmnaaDoorRows.lean that lists a variable, with what it lists TIED to the program's text (the seventh form; the later family's looks); each row that meets fmt, with fmt's text TOLD by the authors' own Lean function (tested against real Go, not proved from fmt's source: count such statements apart). THE CARD IS WHAT COUNTS. Prove the row's statement (the work); the ties are given (YtkmmoheeoblmnaaDoorTie.lean); close each card by the builder's one call (the guide's Derived/Test/ToyasCard.lean, 'card_holds'). Laid BY PROGRAM, IN A SANDBOX (cutbox-door.mjs). By AI agents, Wed Nov 11 2026. No macro, syntax, notation, axiom, sorry.
-/
import Derived.Test.YtkmmoheeoblmnaaDoorRows
import GoSem.ClaimSeven
namespace Go.Proofs.YtkmmoheeoblmnaaDoor
namespace Rows

/-- THE TIED CARD OF 'laws.FnExactTokenText'. -/
def fnExactTokenTextCard : Claim7 := { stood := { row := fnExactTokenTextRow, standIns := [], harness := (true, "be3b204c96344aef972c74a75bdc5fb90c8127574783da11b234b6d5bb80eb73"), looks := true }, kinds := [], alts := [], laidByText := true, laidKinds := [.data, .data, .data], laidTests := true, laidLooks := .later }
def FnExactTokenTextCardSaid : Prop := Claim7.holds Tryd.pinned (.plain (OpenSpec.ofChange fnExactTokenTextSpec)) fnExactTokenTextCard

/-- THE TIED CARD OF 'laws.FnExactTokensText'. -/
def fnExactTokensTextCard : Claim7 := { stood := { row := fnExactTokensTextRow, standIns := [], harness := (true, "be3b204c96344aef972c74a75bdc5fb90c8127574783da11b234b6d5bb80eb73"), looks := true }, kinds := [], alts := [], laidByText := true, laidKinds := [.data, .data, .data], laidTests := true, laidLooks := .later }
def FnExactTokensTextCardSaid : Prop := Claim7.holds Tryd.pinned (.plain (OpenSpec.ofChange fnExactTokensTextSpec)) fnExactTokensTextCard

/-- THE TIED CARD OF 'laws.FnExactXmlAttr'. -/
def fnExactXmlAttrCard : Claim7 := { stood := { row := fnExactXmlAttrRow, standIns := [], harness := (true, "be3b204c96344aef972c74a75bdc5fb90c8127574783da11b234b6d5bb80eb73"), looks := true }, kinds := [], alts := [], laidByText := true, laidKinds := [.data, .data, .data, .sentinel, .sentinel], laidTests := true, laidLooks := .later }
def FnExactXmlAttrCardSaid : Prop := Claim7.holds Tryd.pinned (.plain (OpenSpec.ofChange fnExactXmlAttrSpec)) fnExactXmlAttrCard

/-- THE SECOND FORM's CARD OF 'laws.FnExactTokenText'. -/
def fnExactTokenTextUptoCard : Claim7 := { stood := { row := fnExactTokenTextUptoRow, standIns := [], harness := (true, "be3b204c96344aef972c74a75bdc5fb90c8127574783da11b234b6d5bb80eb73"), looks := true }, kinds := [], alts := [], laidByText := true, laidKinds := [.data, .data, .data], laidTests := true, laidLooks := .later }
def FnExactTokenTextUptoCardSaid : Prop := Claim7.holds Tryd.pinned (.plain (OpenSpec.upto fnExactTokenTextSpec)) fnExactTokenTextUptoCard

/-- THE SECOND FORM's CARD OF 'laws.FnExactTokensText'. -/
def fnExactTokensTextUptoCard : Claim7 := { stood := { row := fnExactTokensTextUptoRow, standIns := [], harness := (true, "be3b204c96344aef972c74a75bdc5fb90c8127574783da11b234b6d5bb80eb73"), looks := true }, kinds := [], alts := [], laidByText := true, laidKinds := [.data, .data, .data], laidTests := true, laidLooks := .later }
def FnExactTokensTextUptoCardSaid : Prop := Claim7.holds Tryd.pinned (.plain (OpenSpec.upto fnExactTokensTextSpec)) fnExactTokensTextUptoCard

/-- THE SECOND FORM's CARD OF 'laws.FnExactXmlAttr'. -/
def fnExactXmlAttrUptoCard : Claim7 := { stood := { row := fnExactXmlAttrUptoRow, standIns := [], harness := (true, "be3b204c96344aef972c74a75bdc5fb90c8127574783da11b234b6d5bb80eb73"), looks := true }, kinds := [], alts := [], laidByText := true, laidKinds := [.data, .data, .data, .sentinel, .sentinel], laidTests := true, laidLooks := .later }
def FnExactXmlAttrUptoCardSaid : Prop := Claim7.holds Tryd.pinned (.plain (OpenSpec.upto fnExactXmlAttrSpec)) fnExactXmlAttrUptoCard
end Rows
end Go.Proofs.YtkmmoheeoblmnaaDoor
