/-
  DERIVED. GIVEN WITH THE SEED: THE CARDS: each row of YtcjchimenfadkaaDoorRows.lean that lists a variable, with what it lists TIED to the program's text (the seventh form; the later family's looks); each row that meets fmt, with fmt's text TOLD by the authors' own Lean function (tested against real Go, not proved from fmt's source: count such statements apart). THE CARD IS WHAT COUNTS. Prove the row's statement (the work); the ties are given (YtcjchimenfadkaaDoorTie.lean); close each card by the builder's one call (the guide's Derived/Test/ToyasCard.lean, 'card_holds'). Laid BY PROGRAM, IN A SANDBOX (cutbox-door.mjs). By AI agents, Wed Nov 11 2026. No macro, syntax, notation, axiom, sorry.
-/
import Derived.Test.YtcjchimenfadkaaDoorRows
import GoSem.ClaimSeven
namespace Go.Proofs.YtcjchimenfadkaaDoor
namespace Rows

/-- THE TIED CARD OF 'laws.FnExactGateUncovered'. -/
def fnExactGateUncoveredCard : Claim7 := { stood := { row := fnExactGateUncoveredRow, standIns := [], harness := (true, "d0172eca328a246a618c4301c4def85d942d0792ea38c24ea5b929ef7fb06380"), looks := true }, kinds := [], alts := [], laidByText := true, laidKinds := [.data, .data, .data], laidTests := true, laidLooks := .later }
def FnExactGateUncoveredCardSaid : Prop := Claim7.holds Tryd.pinned (.plain (OpenSpec.ofChange fnExactGateUncoveredSpec)) fnExactGateUncoveredCard

/-- THE TIED CARD OF 'laws.FnExactGateCheck'. -/
def fnExactGateCheckCard : Claim7 := { stood := { row := fnExactGateCheckRow, standIns := [], harness := (true, "d0172eca328a246a618c4301c4def85d942d0792ea38c24ea5b929ef7fb06380"), looks := true }, kinds := [], alts := [], laidByText := true, laidKinds := [.handle], laidTests := true, laidLooks := .later }
def FnExactGateCheckCardSaid : Prop := Claim7.holds Tryd.pinned (.plain (OpenSpec.ofChange fnExactGateCheckSpec)) fnExactGateCheckCard

/-- THE TIED CARD OF 'laws.FnExactGateTurned'. -/
def fnExactGateTurnedCard : Claim7 := { stood := { row := fnExactGateTurnedRow, standIns := [], harness := (true, "d0172eca328a246a618c4301c4def85d942d0792ea38c24ea5b929ef7fb06380"), looks := true }, kinds := [], alts := [], laidByText := true, laidKinds := [.handle], laidTests := true, laidLooks := .later }
def FnExactGateTurnedCardSaid : Prop := Claim7.holds Tryd.pinned (.plain (OpenSpec.ofChange fnExactGateTurnedSpec)) fnExactGateTurnedCard

/-- THE TIED CARD OF 'laws.FnGateCovers'. -/
def fnGateCoversCard : Claim7 := { stood := { row := fnGateCoversRow, standIns := [], harness := (true, "d0172eca328a246a618c4301c4def85d942d0792ea38c24ea5b929ef7fb06380"), looks := true }, kinds := [], alts := [], laidByText := true, laidKinds := [.data, .data, .data], laidTests := true, laidLooks := .later }
def FnGateCoversCardSaid : Prop := Claim7.holds Tryd.pinned (.plain (OpenSpec.ofChange fnGateCoversSpec)) fnGateCoversCard

/-- THE SECOND FORM's CARD OF 'laws.FnExactGateUncovered'. -/
def fnExactGateUncoveredUptoCard : Claim7 := { stood := { row := fnExactGateUncoveredUptoRow, standIns := [], harness := (true, "d0172eca328a246a618c4301c4def85d942d0792ea38c24ea5b929ef7fb06380"), looks := true }, kinds := [], alts := [], laidByText := true, laidKinds := [.data, .data, .data], laidTests := true, laidLooks := .later }
def FnExactGateUncoveredUptoCardSaid : Prop := Claim7.holds Tryd.pinned (.plain (OpenSpec.upto fnExactGateUncoveredSpec)) fnExactGateUncoveredUptoCard

/-- THE SECOND FORM's CARD OF 'laws.FnExactGateCheck'. -/
def fnExactGateCheckUptoCard : Claim7 := { stood := { row := fnExactGateCheckUptoRow, standIns := [], harness := (true, "d0172eca328a246a618c4301c4def85d942d0792ea38c24ea5b929ef7fb06380"), looks := true }, kinds := [], alts := [], laidByText := true, laidKinds := [.handle], laidTests := true, laidLooks := .later }
def FnExactGateCheckUptoCardSaid : Prop := Claim7.holds Tryd.pinned (.plain (OpenSpec.upto fnExactGateCheckSpec)) fnExactGateCheckUptoCard

/-- THE SECOND FORM's CARD OF 'laws.FnExactGateTurned'. -/
def fnExactGateTurnedUptoCard : Claim7 := { stood := { row := fnExactGateTurnedUptoRow, standIns := [], harness := (true, "d0172eca328a246a618c4301c4def85d942d0792ea38c24ea5b929ef7fb06380"), looks := true }, kinds := [], alts := [], laidByText := true, laidKinds := [.handle], laidTests := true, laidLooks := .later }
def FnExactGateTurnedUptoCardSaid : Prop := Claim7.holds Tryd.pinned (.plain (OpenSpec.upto fnExactGateTurnedSpec)) fnExactGateTurnedUptoCard

/-- THE SECOND FORM's CARD OF 'laws.FnGateCovers'. -/
def fnGateCoversUptoCard : Claim7 := { stood := { row := fnGateCoversUptoRow, standIns := [], harness := (true, "d0172eca328a246a618c4301c4def85d942d0792ea38c24ea5b929ef7fb06380"), looks := true }, kinds := [], alts := [], laidByText := true, laidKinds := [.data, .data, .data], laidTests := true, laidLooks := .later }
def FnGateCoversUptoCardSaid : Prop := Claim7.holds Tryd.pinned (.plain (OpenSpec.upto fnGateCoversSpec)) fnGateCoversUptoCard
end Rows
end Go.Proofs.YtcjchimenfadkaaDoor
