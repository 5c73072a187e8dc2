/-
  DERIVED. GIVEN WITH THE SEED: THE CARDS: each row of YtnnnemgbgilfaaaDoorRows.lean that lists a variable, with what it lists TIED to the program's text (the seventh form; the later family's looks); each row that meets fmt, with fmt's text TOLD by the authors' own Lean function (tested against real Go, not proved from fmt's source: count such statements apart). THE CARD IS WHAT COUNTS. Prove the row's statement (the work); the ties are given (YtnnnemgbgilfaaaDoorTie.lean); close each card by the builder's one call (the guide's Derived/Test/ToyasCard.lean, 'card_holds'). Laid BY PROGRAM, IN A SANDBOX (cutbox-door.mjs). By AI agents, Wed Nov 11 2026. No macro, syntax, notation, axiom, sorry.
-/
import Derived.Test.YtnnnemgbgilfaaaDoorRows
import GoSem.ClaimSeven
namespace Go.Proofs.YtnnnemgbgilfaaaDoor
namespace Rows

/-- THE TIED CARD OF 'laws.FnSheetFill'. -/
def fnSheetFillCard : Claim7 := { stood := { row := fnSheetFillRow, standIns := [], harness := (true, "4259f7ee05e1b57d92da1ece8b1714cffe1709faff2c69eac4ed8ecc1d0e5686"), looks := false }, kinds := [], alts := [], laidByText := true, laidKinds := [.data, .pinned], laidTests := true, laidLooks := .later }
def FnSheetFillCardSaid : Prop := Claim7.holds Tryd.pinned (.plain (OpenSpec.ofChange fnSheetFillSpec)) fnSheetFillCard

/-- THE TIED CARD OF 'laws.FnExactSheetPrint'. -/
def fnExactSheetPrintCard : Claim7 := { stood := { row := fnExactSheetPrintRow, standIns := [], harness := (true, "4259f7ee05e1b57d92da1ece8b1714cffe1709faff2c69eac4ed8ecc1d0e5686"), looks := false }, kinds := [], alts := [], laidByText := true, laidKinds := [.data, .pinned], laidTests := true, laidLooks := .later }
def FnExactSheetPrintCardSaid : Prop := Claim7.holds Tryd.pinned (.plain (OpenSpec.ofChange fnExactSheetPrintSpec)) fnExactSheetPrintCard

/-- THE SECOND FORM's CARD OF 'laws.FnSheetFill'. -/
def fnSheetFillUptoCard : Claim7 := { stood := { row := fnSheetFillUptoRow, standIns := [], harness := (true, "4259f7ee05e1b57d92da1ece8b1714cffe1709faff2c69eac4ed8ecc1d0e5686"), looks := false }, kinds := [], alts := [], laidByText := true, laidKinds := [.data, .pinned], laidTests := true, laidLooks := .later }
def FnSheetFillUptoCardSaid : Prop := Claim7.holds Tryd.pinned (.plain (OpenSpec.upto fnSheetFillSpec)) fnSheetFillUptoCard

/-- THE SECOND FORM's CARD OF 'laws.FnExactSheetPrint'. -/
def fnExactSheetPrintUptoCard : Claim7 := { stood := { row := fnExactSheetPrintUptoRow, standIns := [], harness := (true, "4259f7ee05e1b57d92da1ece8b1714cffe1709faff2c69eac4ed8ecc1d0e5686"), looks := false }, kinds := [], alts := [], laidByText := true, laidKinds := [.data, .pinned], laidTests := true, laidLooks := .later }
def FnExactSheetPrintUptoCardSaid : Prop := Claim7.holds Tryd.pinned (.plain (OpenSpec.upto fnExactSheetPrintSpec)) fnExactSheetPrintUptoCard
end Rows
end Go.Proofs.YtnnnemgbgilfaaaDoor
