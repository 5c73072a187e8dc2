/-
  NARROWER THAN 'FOR EVERY INPUT', by the rows' own cells (each row's printed sentence says how): FnExactSheetRules: laid · FnSheetRules: laid · FnExactSheetFits: laid · FnExactSheetValid: laid · FnExactSheetPrint: laid · FnExactSheetGet: laid · FnExactSheetFill: laid · FnSheetFill: laid · FnExactSheetTrim: laid.
  DERIVED. THE GIVEN ROWS OF THIS SEAT. 9 by the template 'for every input the law returns true; each argument reads behind the call as it read before'; 0 by the template 'total and deterministic' (their statements: YtkppdeobinefbaaDoorTotals.lean).
  GIVEN WITH THE SEED: the statements are not yours to turn. If you find one false, say at which input.
  Laid BY PROGRAM, IN A SANDBOX (cutbox-rows.mjs): the forced cells as the released guide's own fill.sh prints them over the translation 3e182969a3f9b859… (all of the seat's roots in one cut). By AI agents, Wed Nov 11 2026. No macro, syntax, notation, axiom, sorry.
-/
import Derived.Test.YtkppdeobinefbaaDoorChecked
import GoSem.PinnedTables
import GoSem.Claim
import GoSem.ClaimJoined
import GoSem.ClaimMapViews
import Derived.JoinedTies
import Derived.KernelRfl
namespace Go.Proofs.YtkppdeobinefbaaDoor
/- THE CELL 'sum', in the pinned program and in every row, IS THE sha256 OF THE DUMP (.gsa) THAT YtkppdeobinefbaaDoorProg.lean LOADS. Nothing in Lean hashes anything: it is a label: what it is worth is what the hold of that sum in a sandbox is worth. -/
noncomputable def Tryd.pinned : Pinned := { name := "ytkppdeobinefbaadoor", sum := "3e182969a3f9b859816ccc09b5aaad454df4f87dadb447029fe5025017109842", checked := Tryd.checked }
namespace Rows
def none {H : Type} : Left H := { results := [], args := [] }

/- WHAT THE LISTED PACKAGE-LEVEL VARIABLES READ AS WHEN THE CALL BEGINS. Each datum BY PROGRAM (the guide's laid-datum.mjs) off the statement by which the dump's own 'gosem.cut.vars' lays the variable. In a bare row this is a premise. The card (YtkppdeobinefbaaDoorCards.lean) ties it to the program's text. -/
def laid_unicode_utf8_acceptRanges {H : Type} : DataW H := .agg [.agg [.lit (.int .u8 128), .lit (.int .u8 191)], .agg [.lit (.int .u8 160), .lit (.int .u8 191)], .agg [.lit (.int .u8 128), .lit (.int .u8 159)], .agg [.lit (.int .u8 144), .lit (.int .u8 191)], .agg [.lit (.int .u8 128), .lit (.int .u8 143)], .agg [.lit (.int .u8 0), .lit (.int .u8 0)], .agg [.lit (.int .u8 0), .lit (.int .u8 0)], .agg [.lit (.int .u8 0), .lit (.int .u8 0)], .agg [.lit (.int .u8 0), .lit (.int .u8 0)], .agg [.lit (.int .u8 0), .lit (.int .u8 0)], .agg [.lit (.int .u8 0), .lit (.int .u8 0)], .agg [.lit (.int .u8 0), .lit (.int .u8 0)], .agg [.lit (.int .u8 0), .lit (.int .u8 0)], .agg [.lit (.int .u8 0), .lit (.int .u8 0)], .agg [.lit (.int .u8 0), .lit (.int .u8 0)], .agg [.lit (.int .u8 0), .lit (.int .u8 0)]]
/-- One of Go's own tables, pinned by name: the form's constant. -/
def laid_unicode_utf8_first : DataW Unit := Go.Pinned.utf8First

/-- 'laws.FnExactSheetRules': WHATEVER THE INPUT: true; the input reads as it did. -/
def fnExactSheetRulesSpec : ChangeSpec := { name := "fnExactSheetRules", fn := fun _ => fun
  | [d] => { results := [.lit (.bool true)], args := [d] }
  | _ => none }
def fnExactSheetRulesRow : OpenClaim := { program := "ytkppdeobinefbaadoor", sum := "3e182969a3f9b859816ccc09b5aaad454df4f87dadb447029fe5025017109842", func := "loop.example/wharfdesk/laws.FnExactSheetRules", spec := "fnExactSheetRules", inPlace := ["internal/bytealg.CountString", "internal/bytealg.IndexByteString", "internal/bytealg.IndexString"], named := ["unicode/utf8.first", "unicode/utf8.acceptRanges", "internal/bytealg.MaxLen"], apart := false, laid := [("unicode/utf8.acceptRanges", laid_unicode_utf8_acceptRanges), ("unicode/utf8.first", laid_unicode_utf8_first)] }
def FnExactSheetRulesSaid : Prop := fnExactSheetRulesRow.holds Tryd.pinned (OpenSpec.ofChange fnExactSheetRulesSpec)

/-- ITS FALSE NEIGHBOUR: 'it returns false'. Refute it at one input. -/
def fnExactSheetRulesWrong : ChangeSpec := { name := "fnExactSheetRules", fn := fun _ => fun
  | [d] => { results := [.lit (.bool false)], args := [d] }
  | _ => none }
def FnExactSheetRulesWrongFalsely : Prop := fnExactSheetRulesRow.holds Tryd.pinned (OpenSpec.ofChange fnExactSheetRulesWrong)

/-- 'laws.FnSheetRules': WHATEVER THE INPUT: true; the input reads as it did. -/
def fnSheetRulesSpec : ChangeSpec := { name := "fnSheetRules", fn := fun _ => fun
  | [d] => { results := [.lit (.bool true)], args := [d] }
  | _ => none }
def fnSheetRulesRow : OpenClaim := { program := "ytkppdeobinefbaadoor", sum := "3e182969a3f9b859816ccc09b5aaad454df4f87dadb447029fe5025017109842", func := "loop.example/wharfdesk/laws.FnSheetRules", spec := "fnSheetRules", inPlace := ["internal/bytealg.CountString", "internal/bytealg.IndexByteString", "internal/bytealg.IndexString"], recurses := true, named := ["unicode/utf8.first", "unicode/utf8.acceptRanges", "internal/bytealg.MaxLen"], apart := false, laid := [("unicode/utf8.acceptRanges", laid_unicode_utf8_acceptRanges), ("unicode/utf8.first", laid_unicode_utf8_first)] }
def FnSheetRulesSaid : Prop := fnSheetRulesRow.holds Tryd.pinned (OpenSpec.ofChange fnSheetRulesSpec)

/-- ITS FALSE NEIGHBOUR: 'it returns false'. Refute it at one input. -/
def fnSheetRulesWrong : ChangeSpec := { name := "fnSheetRules", fn := fun _ => fun
  | [d] => { results := [.lit (.bool false)], args := [d] }
  | _ => none }
def FnSheetRulesWrongFalsely : Prop := fnSheetRulesRow.holds Tryd.pinned (OpenSpec.ofChange fnSheetRulesWrong)

/-- 'laws.FnExactSheetFits': WHATEVER THE INPUT: true; the input reads as it did. -/
def fnExactSheetFitsSpec : ChangeSpec := { name := "fnExactSheetFits", fn := fun _ => fun
  | [d1, d2, d3] => { results := [.lit (.bool true)], args := [d1, d2, d3] }
  | _ => none }
def fnExactSheetFitsRow : OpenClaim := { program := "ytkppdeobinefbaadoor", sum := "3e182969a3f9b859816ccc09b5aaad454df4f87dadb447029fe5025017109842", func := "loop.example/wharfdesk/laws.FnExactSheetFits", spec := "fnExactSheetFits", inPlace := ["internal/bytealg.CountString", "internal/bytealg.IndexByteString", "internal/bytealg.IndexString"], recurses := true, named := ["unicode/utf8.first", "unicode/utf8.acceptRanges", "internal/bytealg.MaxLen"], apart := false, laid := [("unicode/utf8.acceptRanges", laid_unicode_utf8_acceptRanges), ("unicode/utf8.first", laid_unicode_utf8_first)] }
def FnExactSheetFitsSaid : Prop := fnExactSheetFitsRow.holds Tryd.pinned (OpenSpec.ofChange fnExactSheetFitsSpec)

/-- ITS FALSE NEIGHBOUR: 'it returns false'. Refute it at one input. -/
def fnExactSheetFitsWrong : ChangeSpec := { name := "fnExactSheetFits", fn := fun _ => fun
  | [d1, d2, d3] => { results := [.lit (.bool false)], args := [d1, d2, d3] }
  | _ => none }
def FnExactSheetFitsWrongFalsely : Prop := fnExactSheetFitsRow.holds Tryd.pinned (OpenSpec.ofChange fnExactSheetFitsWrong)

/-- 'laws.FnExactSheetValid': WHATEVER THE INPUT: true; the input reads as it did. -/
def fnExactSheetValidSpec : ChangeSpec := { name := "fnExactSheetValid", fn := fun _ => fun
  | [d] => { results := [.lit (.bool true)], args := [d] }
  | _ => none }
def fnExactSheetValidRow : OpenClaim := { program := "ytkppdeobinefbaadoor", sum := "3e182969a3f9b859816ccc09b5aaad454df4f87dadb447029fe5025017109842", func := "loop.example/wharfdesk/laws.FnExactSheetValid", spec := "fnExactSheetValid", inPlace := ["internal/bytealg.CountString", "internal/bytealg.IndexByteString", "internal/bytealg.IndexString", "internal/bytealg.abigen_runtime_cmpstring"], recurses := true, named := ["unicode/utf8.first", "unicode/utf8.acceptRanges", "internal/bytealg.MaxLen"], apart := false, laid := [("unicode/utf8.acceptRanges", laid_unicode_utf8_acceptRanges), ("unicode/utf8.first", laid_unicode_utf8_first)] }
def FnExactSheetValidSaid : Prop := fnExactSheetValidRow.holds Tryd.pinned (OpenSpec.ofChange fnExactSheetValidSpec)

/-- ITS FALSE NEIGHBOUR: 'it returns false'. Refute it at one input. -/
def fnExactSheetValidWrong : ChangeSpec := { name := "fnExactSheetValid", fn := fun _ => fun
  | [d] => { results := [.lit (.bool false)], args := [d] }
  | _ => none }
def FnExactSheetValidWrongFalsely : Prop := fnExactSheetValidRow.holds Tryd.pinned (OpenSpec.ofChange fnExactSheetValidWrong)

/-- 'laws.FnExactSheetPrint': WHATEVER THE INPUT: true; the input reads as it did. -/
def fnExactSheetPrintSpec : ChangeSpec := { name := "fnExactSheetPrint", fn := fun _ => fun
  | [d] => { results := [.lit (.bool true)], args := [d] }
  | _ => none }
def fnExactSheetPrintRow : OpenClaim := { program := "ytkppdeobinefbaadoor", sum := "3e182969a3f9b859816ccc09b5aaad454df4f87dadb447029fe5025017109842", func := "loop.example/wharfdesk/laws.FnExactSheetPrint", spec := "fnExactSheetPrint", inPlace := ["internal/bytealg.CountString", "internal/bytealg.IndexByteString", "internal/bytealg.IndexString", "internal/bytealg.abigen_runtime_cmpstring", "internal/abi.NoEscape"], recurses := true, named := ["unicode/utf8.first", "unicode/utf8.acceptRanges", "internal/bytealg.MaxLen"], apart := false, laid := [("unicode/utf8.acceptRanges", laid_unicode_utf8_acceptRanges), ("unicode/utf8.first", laid_unicode_utf8_first)] }
def FnExactSheetPrintSaid : Prop := fnExactSheetPrintRow.holds Tryd.pinned (OpenSpec.ofChange fnExactSheetPrintSpec)

/-- ITS FALSE NEIGHBOUR: 'it returns false'. Refute it at one input. -/
def fnExactSheetPrintWrong : ChangeSpec := { name := "fnExactSheetPrint", fn := fun _ => fun
  | [d] => { results := [.lit (.bool false)], args := [d] }
  | _ => none }
def FnExactSheetPrintWrongFalsely : Prop := fnExactSheetPrintRow.holds Tryd.pinned (OpenSpec.ofChange fnExactSheetPrintWrong)

/-- 'laws.FnExactSheetGet': WHATEVER THE INPUT: true; the input reads as it did. -/
def fnExactSheetGetSpec : ChangeSpec := { name := "fnExactSheetGet", fn := fun _ => fun
  | [d1, d2, d3, d4] => { results := [.lit (.bool true)], args := [d1, d2, d3, d4] }
  | _ => none }
def fnExactSheetGetRow : OpenClaim := { program := "ytkppdeobinefbaadoor", sum := "3e182969a3f9b859816ccc09b5aaad454df4f87dadb447029fe5025017109842", func := "loop.example/wharfdesk/laws.FnExactSheetGet", spec := "fnExactSheetGet", inPlace := ["internal/bytealg.CountString", "internal/bytealg.IndexByteString", "internal/bytealg.IndexString", "internal/bytealg.abigen_runtime_cmpstring"], unfollowed := true, recurses := true, named := ["unicode/utf8.first", "unicode/utf8.acceptRanges", "internal/bytealg.MaxLen"], apart := false, laid := [("unicode/utf8.acceptRanges", laid_unicode_utf8_acceptRanges), ("unicode/utf8.first", laid_unicode_utf8_first)] }
def FnExactSheetGetSaid : Prop := fnExactSheetGetRow.holds Tryd.pinned (OpenSpec.ofChange fnExactSheetGetSpec)

/-- ITS FALSE NEIGHBOUR: 'it returns false'. Refute it at one input. -/
def fnExactSheetGetWrong : ChangeSpec := { name := "fnExactSheetGet", fn := fun _ => fun
  | [d1, d2, d3, d4] => { results := [.lit (.bool false)], args := [d1, d2, d3, d4] }
  | _ => none }
def FnExactSheetGetWrongFalsely : Prop := fnExactSheetGetRow.holds Tryd.pinned (OpenSpec.ofChange fnExactSheetGetWrong)

/-- 'laws.FnExactSheetFill': WHATEVER THE INPUT: true; the input reads as it did. -/
def fnExactSheetFillSpec : ChangeSpec := { name := "fnExactSheetFill", fn := fun _ => fun
  | [d] => { results := [.lit (.bool true)], args := [d] }
  | _ => none }
def fnExactSheetFillRow : OpenClaim := { program := "ytkppdeobinefbaadoor", sum := "3e182969a3f9b859816ccc09b5aaad454df4f87dadb447029fe5025017109842", func := "loop.example/wharfdesk/laws.FnExactSheetFill", spec := "fnExactSheetFill", inPlace := ["internal/bytealg.CountString", "internal/bytealg.IndexByteString", "internal/bytealg.IndexString", "internal/bytealg.abigen_runtime_cmpstring"], recurses := true, named := ["unicode/utf8.first", "unicode/utf8.acceptRanges", "internal/bytealg.MaxLen"], apart := false, laid := [("unicode/utf8.acceptRanges", laid_unicode_utf8_acceptRanges), ("unicode/utf8.first", laid_unicode_utf8_first)] }
def FnExactSheetFillSaid : Prop := fnExactSheetFillRow.holds Tryd.pinned (OpenSpec.ofChange fnExactSheetFillSpec)

/-- ITS FALSE NEIGHBOUR: 'it returns false'. Refute it at one input. -/
def fnExactSheetFillWrong : ChangeSpec := { name := "fnExactSheetFill", fn := fun _ => fun
  | [d] => { results := [.lit (.bool false)], args := [d] }
  | _ => none }
def FnExactSheetFillWrongFalsely : Prop := fnExactSheetFillRow.holds Tryd.pinned (OpenSpec.ofChange fnExactSheetFillWrong)

/-- 'laws.FnSheetFill': WHATEVER THE INPUT: true; the input reads as it did. -/
def fnSheetFillSpec : ChangeSpec := { name := "fnSheetFill", fn := fun _ => fun
  | [d] => { results := [.lit (.bool true)], args := [d] }
  | _ => none }
def fnSheetFillRow : OpenClaim := { program := "ytkppdeobinefbaadoor", sum := "3e182969a3f9b859816ccc09b5aaad454df4f87dadb447029fe5025017109842", func := "loop.example/wharfdesk/laws.FnSheetFill", spec := "fnSheetFill", inPlace := ["internal/bytealg.CountString", "internal/bytealg.IndexByteString", "internal/bytealg.IndexString", "internal/bytealg.abigen_runtime_cmpstring"], unfollowed := true, recurses := true, named := ["unicode/utf8.first", "unicode/utf8.acceptRanges", "internal/bytealg.MaxLen"], apart := false, laid := [("unicode/utf8.acceptRanges", laid_unicode_utf8_acceptRanges), ("unicode/utf8.first", laid_unicode_utf8_first)] }
def FnSheetFillSaid : Prop := fnSheetFillRow.holds Tryd.pinned (OpenSpec.ofChange fnSheetFillSpec)

/-- ITS FALSE NEIGHBOUR: 'it returns false'. Refute it at one input. -/
def fnSheetFillWrong : ChangeSpec := { name := "fnSheetFill", fn := fun _ => fun
  | [d] => { results := [.lit (.bool false)], args := [d] }
  | _ => none }
def FnSheetFillWrongFalsely : Prop := fnSheetFillRow.holds Tryd.pinned (OpenSpec.ofChange fnSheetFillWrong)

/-- 'laws.FnExactSheetTrim': WHATEVER THE INPUT: true; the input reads as it did. -/
def fnExactSheetTrimSpec : ChangeSpec := { name := "fnExactSheetTrim", fn := fun _ => fun
  | [d] => { results := [.lit (.bool true)], args := [d] }
  | _ => none }
def fnExactSheetTrimRow : OpenClaim := { program := "ytkppdeobinefbaadoor", sum := "3e182969a3f9b859816ccc09b5aaad454df4f87dadb447029fe5025017109842", func := "loop.example/wharfdesk/laws.FnExactSheetTrim", spec := "fnExactSheetTrim", inPlace := ["internal/bytealg.CountString", "internal/bytealg.IndexByteString", "internal/bytealg.IndexString", "internal/bytealg.abigen_runtime_cmpstring"], unfollowed := true, recurses := true, named := ["unicode/utf8.first", "unicode/utf8.acceptRanges", "internal/bytealg.MaxLen"], apart := false, laid := [("unicode/utf8.acceptRanges", laid_unicode_utf8_acceptRanges), ("unicode/utf8.first", laid_unicode_utf8_first)] }
def FnExactSheetTrimSaid : Prop := fnExactSheetTrimRow.holds Tryd.pinned (OpenSpec.ofChange fnExactSheetTrimSpec)

/-- ITS FALSE NEIGHBOUR: 'it returns false'. Refute it at one input. -/
def fnExactSheetTrimWrong : ChangeSpec := { name := "fnExactSheetTrim", fn := fun _ => fun
  | [d] => { results := [.lit (.bool false)], args := [d] }
  | _ => none }
def FnExactSheetTrimWrongFalsely : Prop := fnExactSheetTrimRow.holds Tryd.pinned (OpenSpec.ofChange fnExactSheetTrimWrong)

/- THE SECOND FORM. 'bulk': how many values and letters a reading holds, each counted each time it is reached (what is shared counts as often as it is met; a slice's spare places count too). A statement '..UptoSaid' is the law's where the arguments, and the package variables that the reading takes, are together of bulk at most 1048576: NARROWER than '..Said'. Prove '..Said' where nothing that the law and all that it calls make is longer than what came in: it says more and counts as full. Else prove '..UptoSaid'. A law counts once. -/
mutual
def uptoBulk {H : Type} : DataW H → Nat
  | .lit (.string bytes) => bytes.length + 1
  | .lit _ => 1
  | .nil => 1
  | .ptr d => uptoBulk d + 1
  | .slice elems spare => uptoBulkAll elems + uptoBulkAll spare + 1
  | .agg parts => uptoBulkAll parts + 1
  | .iface _ d => uptoBulk d + 1
  | .map entries => uptoBulkEntries entries + 1
  | .held _ => 1
def uptoBulkAll {H : Type} : List (DataW H) → Nat
  | [] => 0
  | d :: r => uptoBulk d + uptoBulkAll r
def uptoBulkEntries {H : Type} : List (Lit × DataW H) → Nat
  | [] => 0
  | x :: r => uptoBulkEntry x + uptoBulkEntries r
def uptoBulkEntry {H : Type} : Lit × DataW H → Nat
  | (.string bytes, d) => bytes.length + uptoBulk d + 1
  | (_, d) => uptoBulk d + 1
 end
def uptoSmall : (H : Type) → List (DataW H) → Bool := fun _ ds => decide (uptoBulkAll ds ≤ 1048576)
def OpenSpec.upto (s : _root_.Go.ChangeSpec) : _root_.Go.OpenSpec := { _root_.Go.OpenSpec.ofChange s with cond := some uptoSmall }

/-- 'laws.FnExactSheetRules', WHERE WHAT IT READS IS OF BULK AT MOST 1048576: true; the input reads as it did. -/
def fnExactSheetRulesUptoRow : OpenClaim := { program := "ytkppdeobinefbaadoor", sum := "3e182969a3f9b859816ccc09b5aaad454df4f87dadb447029fe5025017109842", func := "loop.example/wharfdesk/laws.FnExactSheetRules", spec := "fnExactSheetRules", inPlace := ["internal/bytealg.CountString", "internal/bytealg.IndexByteString", "internal/bytealg.IndexString"], named := ["unicode/utf8.first", "unicode/utf8.acceptRanges", "internal/bytealg.MaxLen"], apart := false, laid := [("unicode/utf8.acceptRanges", laid_unicode_utf8_acceptRanges), ("unicode/utf8.first", laid_unicode_utf8_first)], narrowed := true }
def FnExactSheetRulesUptoSaid : Prop := fnExactSheetRulesUptoRow.holds Tryd.pinned (OpenSpec.upto fnExactSheetRulesSpec)

/-- 'laws.FnSheetRules', WHERE WHAT IT READS IS OF BULK AT MOST 1048576: true; the input reads as it did. -/
def fnSheetRulesUptoRow : OpenClaim := { program := "ytkppdeobinefbaadoor", sum := "3e182969a3f9b859816ccc09b5aaad454df4f87dadb447029fe5025017109842", func := "loop.example/wharfdesk/laws.FnSheetRules", spec := "fnSheetRules", inPlace := ["internal/bytealg.CountString", "internal/bytealg.IndexByteString", "internal/bytealg.IndexString"], recurses := true, named := ["unicode/utf8.first", "unicode/utf8.acceptRanges", "internal/bytealg.MaxLen"], apart := false, laid := [("unicode/utf8.acceptRanges", laid_unicode_utf8_acceptRanges), ("unicode/utf8.first", laid_unicode_utf8_first)], narrowed := true }
def FnSheetRulesUptoSaid : Prop := fnSheetRulesUptoRow.holds Tryd.pinned (OpenSpec.upto fnSheetRulesSpec)

/-- 'laws.FnExactSheetFits', WHERE WHAT IT READS IS OF BULK AT MOST 1048576: true; the input reads as it did. -/
def fnExactSheetFitsUptoRow : OpenClaim := { program := "ytkppdeobinefbaadoor", sum := "3e182969a3f9b859816ccc09b5aaad454df4f87dadb447029fe5025017109842", func := "loop.example/wharfdesk/laws.FnExactSheetFits", spec := "fnExactSheetFits", inPlace := ["internal/bytealg.CountString", "internal/bytealg.IndexByteString", "internal/bytealg.IndexString"], recurses := true, named := ["unicode/utf8.first", "unicode/utf8.acceptRanges", "internal/bytealg.MaxLen"], apart := false, laid := [("unicode/utf8.acceptRanges", laid_unicode_utf8_acceptRanges), ("unicode/utf8.first", laid_unicode_utf8_first)], narrowed := true }
def FnExactSheetFitsUptoSaid : Prop := fnExactSheetFitsUptoRow.holds Tryd.pinned (OpenSpec.upto fnExactSheetFitsSpec)

/-- 'laws.FnExactSheetValid', WHERE WHAT IT READS IS OF BULK AT MOST 1048576: true; the input reads as it did. -/
def fnExactSheetValidUptoRow : OpenClaim := { program := "ytkppdeobinefbaadoor", sum := "3e182969a3f9b859816ccc09b5aaad454df4f87dadb447029fe5025017109842", func := "loop.example/wharfdesk/laws.FnExactSheetValid", spec := "fnExactSheetValid", inPlace := ["internal/bytealg.CountString", "internal/bytealg.IndexByteString", "internal/bytealg.IndexString", "internal/bytealg.abigen_runtime_cmpstring"], recurses := true, named := ["unicode/utf8.first", "unicode/utf8.acceptRanges", "internal/bytealg.MaxLen"], apart := false, laid := [("unicode/utf8.acceptRanges", laid_unicode_utf8_acceptRanges), ("unicode/utf8.first", laid_unicode_utf8_first)], narrowed := true }
def FnExactSheetValidUptoSaid : Prop := fnExactSheetValidUptoRow.holds Tryd.pinned (OpenSpec.upto fnExactSheetValidSpec)

/-- 'laws.FnExactSheetPrint', WHERE WHAT IT READS IS OF BULK AT MOST 1048576: true; the input reads as it did. -/
def fnExactSheetPrintUptoRow : OpenClaim := { program := "ytkppdeobinefbaadoor", sum := "3e182969a3f9b859816ccc09b5aaad454df4f87dadb447029fe5025017109842", func := "loop.example/wharfdesk/laws.FnExactSheetPrint", spec := "fnExactSheetPrint", inPlace := ["internal/bytealg.CountString", "internal/bytealg.IndexByteString", "internal/bytealg.IndexString", "internal/bytealg.abigen_runtime_cmpstring", "internal/abi.NoEscape"], recurses := true, named := ["unicode/utf8.first", "unicode/utf8.acceptRanges", "internal/bytealg.MaxLen"], apart := false, laid := [("unicode/utf8.acceptRanges", laid_unicode_utf8_acceptRanges), ("unicode/utf8.first", laid_unicode_utf8_first)], narrowed := true }
def FnExactSheetPrintUptoSaid : Prop := fnExactSheetPrintUptoRow.holds Tryd.pinned (OpenSpec.upto fnExactSheetPrintSpec)

/-- 'laws.FnExactSheetGet', WHERE WHAT IT READS IS OF BULK AT MOST 1048576: true; the input reads as it did. -/
def fnExactSheetGetUptoRow : OpenClaim := { program := "ytkppdeobinefbaadoor", sum := "3e182969a3f9b859816ccc09b5aaad454df4f87dadb447029fe5025017109842", func := "loop.example/wharfdesk/laws.FnExactSheetGet", spec := "fnExactSheetGet", inPlace := ["internal/bytealg.CountString", "internal/bytealg.IndexByteString", "internal/bytealg.IndexString", "internal/bytealg.abigen_runtime_cmpstring"], unfollowed := true, recurses := true, named := ["unicode/utf8.first", "unicode/utf8.acceptRanges", "internal/bytealg.MaxLen"], apart := false, laid := [("unicode/utf8.acceptRanges", laid_unicode_utf8_acceptRanges), ("unicode/utf8.first", laid_unicode_utf8_first)], narrowed := true }
def FnExactSheetGetUptoSaid : Prop := fnExactSheetGetUptoRow.holds Tryd.pinned (OpenSpec.upto fnExactSheetGetSpec)

/-- 'laws.FnExactSheetFill', WHERE WHAT IT READS IS OF BULK AT MOST 1048576: true; the input reads as it did. -/
def fnExactSheetFillUptoRow : OpenClaim := { program := "ytkppdeobinefbaadoor", sum := "3e182969a3f9b859816ccc09b5aaad454df4f87dadb447029fe5025017109842", func := "loop.example/wharfdesk/laws.FnExactSheetFill", spec := "fnExactSheetFill", inPlace := ["internal/bytealg.CountString", "internal/bytealg.IndexByteString", "internal/bytealg.IndexString", "internal/bytealg.abigen_runtime_cmpstring"], recurses := true, named := ["unicode/utf8.first", "unicode/utf8.acceptRanges", "internal/bytealg.MaxLen"], apart := false, laid := [("unicode/utf8.acceptRanges", laid_unicode_utf8_acceptRanges), ("unicode/utf8.first", laid_unicode_utf8_first)], narrowed := true }
def FnExactSheetFillUptoSaid : Prop := fnExactSheetFillUptoRow.holds Tryd.pinned (OpenSpec.upto fnExactSheetFillSpec)

/-- 'laws.FnSheetFill', WHERE WHAT IT READS IS OF BULK AT MOST 1048576: true; the input reads as it did. -/
def fnSheetFillUptoRow : OpenClaim := { program := "ytkppdeobinefbaadoor", sum := "3e182969a3f9b859816ccc09b5aaad454df4f87dadb447029fe5025017109842", func := "loop.example/wharfdesk/laws.FnSheetFill", spec := "fnSheetFill", inPlace := ["internal/bytealg.CountString", "internal/bytealg.IndexByteString", "internal/bytealg.IndexString", "internal/bytealg.abigen_runtime_cmpstring"], unfollowed := true, recurses := true, named := ["unicode/utf8.first", "unicode/utf8.acceptRanges", "internal/bytealg.MaxLen"], apart := false, laid := [("unicode/utf8.acceptRanges", laid_unicode_utf8_acceptRanges), ("unicode/utf8.first", laid_unicode_utf8_first)], narrowed := true }
def FnSheetFillUptoSaid : Prop := fnSheetFillUptoRow.holds Tryd.pinned (OpenSpec.upto fnSheetFillSpec)

/-- 'laws.FnExactSheetTrim', WHERE WHAT IT READS IS OF BULK AT MOST 1048576: true; the input reads as it did. -/
def fnExactSheetTrimUptoRow : OpenClaim := { program := "ytkppdeobinefbaadoor", sum := "3e182969a3f9b859816ccc09b5aaad454df4f87dadb447029fe5025017109842", func := "loop.example/wharfdesk/laws.FnExactSheetTrim", spec := "fnExactSheetTrim", inPlace := ["internal/bytealg.CountString", "internal/bytealg.IndexByteString", "internal/bytealg.IndexString", "internal/bytealg.abigen_runtime_cmpstring"], unfollowed := true, recurses := true, named := ["unicode/utf8.first", "unicode/utf8.acceptRanges", "internal/bytealg.MaxLen"], apart := false, laid := [("unicode/utf8.acceptRanges", laid_unicode_utf8_acceptRanges), ("unicode/utf8.first", laid_unicode_utf8_first)], narrowed := true }
def FnExactSheetTrimUptoSaid : Prop := fnExactSheetTrimUptoRow.holds Tryd.pinned (OpenSpec.upto fnExactSheetTrimSpec)

end Rows
end Go.Proofs.YtkppdeobinefbaaDoor
