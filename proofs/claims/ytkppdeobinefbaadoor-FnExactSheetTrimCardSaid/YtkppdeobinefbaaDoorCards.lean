/-
  DERIVED. GIVEN WITH THE SEED: THE CARDS: each row of YtkppdeobinefbaaDoorRows.lean that lists a variable, with what it lists TIED to the program's text (the seventh form; the later family's looks); each row that meets fmt, with fmt's text TOLD by the authors' own Lean function (tested against real Go, not proved from fmt's source: count such statements apart). THE CARD IS WHAT COUNTS. Prove the row's statement (the work); the ties are given (YtkppdeobinefbaaDoorTie.lean); close each card by the builder's one call (the guide's Derived/Test/ToyasCard.lean, 'card_holds'). Laid BY PROGRAM, IN A SANDBOX (cutbox-door.mjs). By AI agents, Wed Nov 11 2026. No macro, syntax, notation, axiom, sorry.
-/
import Derived.Test.YtkppdeobinefbaaDoorRows
import GoSem.ClaimSeven
namespace Go.Proofs.YtkppdeobinefbaaDoor
namespace Rows

/-- THE TIED CARD OF 'laws.FnExactSheetRules'. -/
def fnExactSheetRulesCard : Claim7 := { stood := { row := fnExactSheetRulesRow, standIns := [], harness := (true, "46c92a26e53ae807ad022556c9fd4ea4ffbde15ac768c3a071058a334c0d6abd"), looks := false }, kinds := [], alts := [], laidByText := true, laidKinds := [.data, .pinned], laidTests := true, laidLooks := .later }
def FnExactSheetRulesCardSaid : Prop := Claim7.holds Tryd.pinned (.plain (OpenSpec.ofChange fnExactSheetRulesSpec)) fnExactSheetRulesCard

/-- THE TIED CARD OF 'laws.FnSheetRules'. -/
def fnSheetRulesCard : Claim7 := { stood := { row := fnSheetRulesRow, standIns := [], harness := (true, "46c92a26e53ae807ad022556c9fd4ea4ffbde15ac768c3a071058a334c0d6abd"), looks := false }, kinds := [], alts := [], laidByText := true, laidKinds := [.data, .pinned], laidTests := true, laidLooks := .later }
def FnSheetRulesCardSaid : Prop := Claim7.holds Tryd.pinned (.plain (OpenSpec.ofChange fnSheetRulesSpec)) fnSheetRulesCard

/-- THE TIED CARD OF 'laws.FnExactSheetFits'. -/
def fnExactSheetFitsCard : Claim7 := { stood := { row := fnExactSheetFitsRow, standIns := [], harness := (true, "46c92a26e53ae807ad022556c9fd4ea4ffbde15ac768c3a071058a334c0d6abd"), looks := false }, kinds := [], alts := [], laidByText := true, laidKinds := [.data, .pinned], laidTests := true, laidLooks := .later }
def FnExactSheetFitsCardSaid : Prop := Claim7.holds Tryd.pinned (.plain (OpenSpec.ofChange fnExactSheetFitsSpec)) fnExactSheetFitsCard

/-- THE TIED CARD OF 'laws.FnExactSheetValid'. -/
def fnExactSheetValidCard : Claim7 := { stood := { row := fnExactSheetValidRow, standIns := [], harness := (true, "46c92a26e53ae807ad022556c9fd4ea4ffbde15ac768c3a071058a334c0d6abd"), looks := false }, kinds := [], alts := [], laidByText := true, laidKinds := [.data, .pinned], laidTests := true, laidLooks := .later }
def FnExactSheetValidCardSaid : Prop := Claim7.holds Tryd.pinned (.plain (OpenSpec.ofChange fnExactSheetValidSpec)) fnExactSheetValidCard

/-- THE TIED CARD OF 'laws.FnExactSheetPrint'. -/
def fnExactSheetPrintCard : Claim7 := { stood := { row := fnExactSheetPrintRow, standIns := [], harness := (true, "46c92a26e53ae807ad022556c9fd4ea4ffbde15ac768c3a071058a334c0d6abd"), looks := false }, kinds := [], alts := [], laidByText := true, laidKinds := [.data, .pinned], laidTests := true, laidLooks := .later }
def FnExactSheetPrintCardSaid : Prop := Claim7.holds Tryd.pinned (.plain (OpenSpec.ofChange fnExactSheetPrintSpec)) fnExactSheetPrintCard

/-- THE TIED CARD OF 'laws.FnExactSheetGet'. -/
def fnExactSheetGetCard : Claim7 := { stood := { row := fnExactSheetGetRow, standIns := [], harness := (true, "46c92a26e53ae807ad022556c9fd4ea4ffbde15ac768c3a071058a334c0d6abd"), looks := false }, kinds := [], alts := [], laidByText := true, laidKinds := [.data, .pinned], laidTests := true, laidLooks := .later }
def FnExactSheetGetCardSaid : Prop := Claim7.holds Tryd.pinned (.plain (OpenSpec.ofChange fnExactSheetGetSpec)) fnExactSheetGetCard

/-- THE TIED CARD OF 'laws.FnExactSheetFill'. -/
def fnExactSheetFillCard : Claim7 := { stood := { row := fnExactSheetFillRow, standIns := [], harness := (true, "46c92a26e53ae807ad022556c9fd4ea4ffbde15ac768c3a071058a334c0d6abd"), looks := false }, kinds := [], alts := [], laidByText := true, laidKinds := [.data, .pinned], laidTests := true, laidLooks := .later }
def FnExactSheetFillCardSaid : Prop := Claim7.holds Tryd.pinned (.plain (OpenSpec.ofChange fnExactSheetFillSpec)) fnExactSheetFillCard

/-- THE TIED CARD OF 'laws.FnSheetFill'. -/
def fnSheetFillCard : Claim7 := { stood := { row := fnSheetFillRow, standIns := [], harness := (true, "46c92a26e53ae807ad022556c9fd4ea4ffbde15ac768c3a071058a334c0d6abd"), looks := false }, kinds := [], alts := [], laidByText := true, laidKinds := [.data, .pinned], laidTests := true, laidLooks := .later }
def FnSheetFillCardSaid : Prop := Claim7.holds Tryd.pinned (.plain (OpenSpec.ofChange fnSheetFillSpec)) fnSheetFillCard

/-- THE TIED CARD OF 'laws.FnExactSheetTrim'. -/
def fnExactSheetTrimCard : Claim7 := { stood := { row := fnExactSheetTrimRow, standIns := [], harness := (true, "46c92a26e53ae807ad022556c9fd4ea4ffbde15ac768c3a071058a334c0d6abd"), looks := false }, kinds := [], alts := [], laidByText := true, laidKinds := [.data, .pinned], laidTests := true, laidLooks := .later }
def FnExactSheetTrimCardSaid : Prop := Claim7.holds Tryd.pinned (.plain (OpenSpec.ofChange fnExactSheetTrimSpec)) fnExactSheetTrimCard

/-- THE SECOND FORM's CARD OF 'laws.FnExactSheetRules'. -/
def fnExactSheetRulesUptoCard : Claim7 := { stood := { row := fnExactSheetRulesUptoRow, standIns := [], harness := (true, "46c92a26e53ae807ad022556c9fd4ea4ffbde15ac768c3a071058a334c0d6abd"), looks := false }, kinds := [], alts := [], laidByText := true, laidKinds := [.data, .pinned], laidTests := true, laidLooks := .later }
def FnExactSheetRulesUptoCardSaid : Prop := Claim7.holds Tryd.pinned (.plain (OpenSpec.upto fnExactSheetRulesSpec)) fnExactSheetRulesUptoCard

/-- THE SECOND FORM's CARD OF 'laws.FnSheetRules'. -/
def fnSheetRulesUptoCard : Claim7 := { stood := { row := fnSheetRulesUptoRow, standIns := [], harness := (true, "46c92a26e53ae807ad022556c9fd4ea4ffbde15ac768c3a071058a334c0d6abd"), looks := false }, kinds := [], alts := [], laidByText := true, laidKinds := [.data, .pinned], laidTests := true, laidLooks := .later }
def FnSheetRulesUptoCardSaid : Prop := Claim7.holds Tryd.pinned (.plain (OpenSpec.upto fnSheetRulesSpec)) fnSheetRulesUptoCard

/-- THE SECOND FORM's CARD OF 'laws.FnExactSheetFits'. -/
def fnExactSheetFitsUptoCard : Claim7 := { stood := { row := fnExactSheetFitsUptoRow, standIns := [], harness := (true, "46c92a26e53ae807ad022556c9fd4ea4ffbde15ac768c3a071058a334c0d6abd"), looks := false }, kinds := [], alts := [], laidByText := true, laidKinds := [.data, .pinned], laidTests := true, laidLooks := .later }
def FnExactSheetFitsUptoCardSaid : Prop := Claim7.holds Tryd.pinned (.plain (OpenSpec.upto fnExactSheetFitsSpec)) fnExactSheetFitsUptoCard

/-- THE SECOND FORM's CARD OF 'laws.FnExactSheetValid'. -/
def fnExactSheetValidUptoCard : Claim7 := { stood := { row := fnExactSheetValidUptoRow, standIns := [], harness := (true, "46c92a26e53ae807ad022556c9fd4ea4ffbde15ac768c3a071058a334c0d6abd"), looks := false }, kinds := [], alts := [], laidByText := true, laidKinds := [.data, .pinned], laidTests := true, laidLooks := .later }
def FnExactSheetValidUptoCardSaid : Prop := Claim7.holds Tryd.pinned (.plain (OpenSpec.upto fnExactSheetValidSpec)) fnExactSheetValidUptoCard

/-- THE SECOND FORM's CARD OF 'laws.FnExactSheetPrint'. -/
def fnExactSheetPrintUptoCard : Claim7 := { stood := { row := fnExactSheetPrintUptoRow, standIns := [], harness := (true, "46c92a26e53ae807ad022556c9fd4ea4ffbde15ac768c3a071058a334c0d6abd"), looks := false }, kinds := [], alts := [], laidByText := true, laidKinds := [.data, .pinned], laidTests := true, laidLooks := .later }
def FnExactSheetPrintUptoCardSaid : Prop := Claim7.holds Tryd.pinned (.plain (OpenSpec.upto fnExactSheetPrintSpec)) fnExactSheetPrintUptoCard

/-- THE SECOND FORM's CARD OF 'laws.FnExactSheetGet'. -/
def fnExactSheetGetUptoCard : Claim7 := { stood := { row := fnExactSheetGetUptoRow, standIns := [], harness := (true, "46c92a26e53ae807ad022556c9fd4ea4ffbde15ac768c3a071058a334c0d6abd"), looks := false }, kinds := [], alts := [], laidByText := true, laidKinds := [.data, .pinned], laidTests := true, laidLooks := .later }
def FnExactSheetGetUptoCardSaid : Prop := Claim7.holds Tryd.pinned (.plain (OpenSpec.upto fnExactSheetGetSpec)) fnExactSheetGetUptoCard

/-- THE SECOND FORM's CARD OF 'laws.FnExactSheetFill'. -/
def fnExactSheetFillUptoCard : Claim7 := { stood := { row := fnExactSheetFillUptoRow, standIns := [], harness := (true, "46c92a26e53ae807ad022556c9fd4ea4ffbde15ac768c3a071058a334c0d6abd"), looks := false }, kinds := [], alts := [], laidByText := true, laidKinds := [.data, .pinned], laidTests := true, laidLooks := .later }
def FnExactSheetFillUptoCardSaid : Prop := Claim7.holds Tryd.pinned (.plain (OpenSpec.upto fnExactSheetFillSpec)) fnExactSheetFillUptoCard

/-- THE SECOND FORM's CARD OF 'laws.FnSheetFill'. -/
def fnSheetFillUptoCard : Claim7 := { stood := { row := fnSheetFillUptoRow, standIns := [], harness := (true, "46c92a26e53ae807ad022556c9fd4ea4ffbde15ac768c3a071058a334c0d6abd"), looks := false }, kinds := [], alts := [], laidByText := true, laidKinds := [.data, .pinned], laidTests := true, laidLooks := .later }
def FnSheetFillUptoCardSaid : Prop := Claim7.holds Tryd.pinned (.plain (OpenSpec.upto fnSheetFillSpec)) fnSheetFillUptoCard

/-- THE SECOND FORM's CARD OF 'laws.FnExactSheetTrim'. -/
def fnExactSheetTrimUptoCard : Claim7 := { stood := { row := fnExactSheetTrimUptoRow, standIns := [], harness := (true, "46c92a26e53ae807ad022556c9fd4ea4ffbde15ac768c3a071058a334c0d6abd"), looks := false }, kinds := [], alts := [], laidByText := true, laidKinds := [.data, .pinned], laidTests := true, laidLooks := .later }
def FnExactSheetTrimUptoCardSaid : Prop := Claim7.holds Tryd.pinned (.plain (OpenSpec.upto fnExactSheetTrimSpec)) fnExactSheetTrimUptoCard
end Rows
end Go.Proofs.YtkppdeobinefbaaDoor
