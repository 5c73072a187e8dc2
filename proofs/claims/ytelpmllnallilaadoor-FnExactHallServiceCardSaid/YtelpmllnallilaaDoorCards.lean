/-
  DERIVED. GIVEN WITH THE SEED: THE CARDS: each row of YtelpmllnallilaaDoorRows.lean that lists a variable, with what it lists TIED to the program's text (the seventh form; the later family's looks); each row that meets fmt, with fmt's text TOLD by the authors' own Lean function (tested against real Go, not proved from fmt's source: count such statements apart). THE CARD IS WHAT COUNTS. Prove the row's statement (the work); the ties are given (YtelpmllnallilaaDoorTie.lean); close each card by the builder's one call (the guide's Derived/Test/ToyasCard.lean, 'card_holds'). Laid BY PROGRAM, IN A SANDBOX (cutbox-door.mjs). By AI agents, Wed Nov 11 2026. No macro, syntax, notation, axiom, sorry.
-/
import Derived.Test.YtelpmllnallilaaDoorRows
import GoSem.ClaimSeven
namespace Go.Proofs.YtelpmllnallilaaDoor
namespace Rows

/-- THE TIED CARD OF 'laws.FnExactHallService'. -/
def fnExactHallServiceCard : Claim7 := { stood := { row := fnExactHallServiceRow, standIns := [], harness := (true, "1031de3871c8a237daabae574a3973c6a049e028edc63b03776992b19c22d0ed"), looks := true }, kinds := [], alts := [], laidByText := true, laidKinds := [.data, .data, .data, .sentinel, .sentinel, .sentinel], laidTests := true, laidLooks := .later }
def FnExactHallServiceCardSaid : Prop := Claim7.holds Tryd.pinned (.plain (OpenSpec.ofChange fnExactHallServiceSpec)) fnExactHallServiceCard

/-- THE SECOND FORM's CARD OF 'laws.FnExactHallService'. -/
def fnExactHallServiceUptoCard : Claim7 := { stood := { row := fnExactHallServiceUptoRow, standIns := [], harness := (true, "1031de3871c8a237daabae574a3973c6a049e028edc63b03776992b19c22d0ed"), looks := true }, kinds := [], alts := [], laidByText := true, laidKinds := [.data, .data, .data, .sentinel, .sentinel, .sentinel], laidTests := true, laidLooks := .later }
def FnExactHallServiceUptoCardSaid : Prop := Claim7.holds Tryd.pinned (.plain (OpenSpec.upto fnExactHallServiceSpec)) fnExactHallServiceUptoCard
end Rows
end Go.Proofs.YtelpmllnallilaaDoor
