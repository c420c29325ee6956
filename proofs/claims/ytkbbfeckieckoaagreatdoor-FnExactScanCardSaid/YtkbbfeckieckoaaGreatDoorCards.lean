/-
  DERIVED. GIVEN WITH THE SEED: THE CARDS: each row of YtkbbfeckieckoaaGreatDoorRows.lean that lists a variable, with what it lists TIED to the program's text (the seventh form; the later family's looks); each row that meets fmt, with fmt's text TOLD by the authors' own Lean function (tested against real Go, not proved from fmt's source: count such statements apart). THE CARD IS WHAT COUNTS. Prove the row's statement (the work); the ties are given (YtkbbfeckieckoaaGreatDoorTie.lean); close each card by the builder's one call (the guide's Derived/Test/ToyasCard.lean, 'card_holds'). Laid BY PROGRAM, IN A SANDBOX (cutbox-door.mjs). By AI agents, Wed Nov 11 2026. No macro, syntax, notation, axiom, sorry.
-/
import Derived.Test.YtkbbfeckieckoaaGreatDoorRows
import GoSem.ClaimSeven
namespace Go.Proofs.YtkbbfeckieckoaaGreatDoor
namespace Rows

/-- THE TIED CARD OF 'laws.FnExactScan'. -/
def fnExactScanCard : Claim7 := { stood := { row := fnExactScanRow, standIns := [], harness := (true, "487f682e1f183106e445379155d17aa3e2191f49d2be7dfd169fbb376a23e26b"), looks := false }, kinds := [], alts := [], laidByText := true, laidKinds := [.data, .pinned], laidTests := true, laidLooks := .later }
def FnExactScanCardSaid : Prop := Claim7.holds Tryz.pinned (.plain (OpenSpec.ofChange fnExactScanSpec)) fnExactScanCard

/-- THE TIED CARD OF 'laws.FnSpelt'. -/
def fnSpeltCard : Claim7 := { stood := { row := fnSpeltRow, standIns := [], harness := (true, "487f682e1f183106e445379155d17aa3e2191f49d2be7dfd169fbb376a23e26b"), looks := false }, kinds := [], alts := [], laidByText := true, laidKinds := [.data, .pinned], laidTests := true, laidLooks := .later }
def FnSpeltCardSaid : Prop := Claim7.holds Tryz.pinned (.plain (OpenSpec.ofChange fnSpeltSpec)) fnSpeltCard

/-- THE SECOND FORM's CARD OF 'laws.FnExactScan'. -/
def fnExactScanUptoCard : Claim7 := { stood := { row := fnExactScanUptoRow, standIns := [], harness := (true, "487f682e1f183106e445379155d17aa3e2191f49d2be7dfd169fbb376a23e26b"), looks := false }, kinds := [], alts := [], laidByText := true, laidKinds := [.data, .pinned], laidTests := true, laidLooks := .later }
def FnExactScanUptoCardSaid : Prop := Claim7.holds Tryz.pinned (.plain (OpenSpec.upto fnExactScanSpec)) fnExactScanUptoCard

/-- THE SECOND FORM's CARD OF 'laws.FnSpelt'. -/
def fnSpeltUptoCard : Claim7 := { stood := { row := fnSpeltUptoRow, standIns := [], harness := (true, "487f682e1f183106e445379155d17aa3e2191f49d2be7dfd169fbb376a23e26b"), looks := false }, kinds := [], alts := [], laidByText := true, laidKinds := [.data, .pinned], laidTests := true, laidLooks := .later }
def FnSpeltUptoCardSaid : Prop := Claim7.holds Tryz.pinned (.plain (OpenSpec.upto fnSpeltSpec)) fnSpeltUptoCard
end Rows
end Go.Proofs.YtkbbfeckieckoaaGreatDoor
