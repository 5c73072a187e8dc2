/-
  No cell of these rows narrows 'for every input' (looked for: loops, veiled, ifaces, maps, wideKeys, modest, calm, conditions, laid).
  DERIVED. THE GIVEN ROWS OF THIS SEAT. 3 by the template 'for every input the law returns true; each argument reads behind the call as it read before'; 0 by the template 'total and deterministic' (their statements: YtkppdeobinefbaaTotals.lean).
  GIVEN WITH THE SEED: the statements are not yours to turn. If you find one false, say at which input.
  Laid BY PROGRAM, IN A SANDBOX (cutbox-rows.mjs): the forced cells as the released guide's own fill.sh prints them over the translation 683a9cb3748e756a… (all of the seat's roots in one cut). By AI agents, Wed Nov 11 2026. No macro, syntax, notation, axiom, sorry.
-/
import Derived.Test.YtkppdeobinefbaaChecked
import GoSem.Claim
import GoSem.ClaimJoined
import GoSem.ClaimMapViews
import Derived.JoinedTies
import Derived.KernelRfl
namespace Go.Proofs.Ytkppdeobinefbaa
/- THE CELL 'sum', in the pinned program and in every row, IS THE sha256 OF THE DUMP (.gsa) THAT YtkppdeobinefbaaProg.lean LOADS. Nothing in Lean hashes anything: it is a label: what it is worth is what the hold of that sum in a sandbox is worth. -/
noncomputable def Try.pinned : Pinned := { name := "ytkppdeobinefbaa", sum := "683a9cb3748e756a618712ddadc1011e74d96bd3ce957c212eb1a62512599a1a", checked := Try.checked }
namespace Rows
def none {H : Type} : Left H := { results := [], args := [] }

/-- 'laws.FnExactSheetWord': WHATEVER THE INPUT: true; the input reads as it did. -/
def fnExactSheetWordSpec : ChangeSpec := { name := "fnExactSheetWord", fn := fun _ => fun
  | [d] => { results := [.lit (.bool true)], args := [d] }
  | _ => none }
def fnExactSheetWordRow : OpenClaim := { program := "ytkppdeobinefbaa", sum := "683a9cb3748e756a618712ddadc1011e74d96bd3ce957c212eb1a62512599a1a", func := "loop.example/wharfdesk/laws.FnExactSheetWord", spec := "fnExactSheetWord", apart := false }
def FnExactSheetWordSaid : Prop := fnExactSheetWordRow.holds Try.pinned (OpenSpec.ofChange fnExactSheetWordSpec)

/-- ITS FALSE NEIGHBOUR: 'it returns false'. Refute it at one input. -/
def fnExactSheetWordWrong : ChangeSpec := { name := "fnExactSheetWord", fn := fun _ => fun
  | [d] => { results := [.lit (.bool false)], args := [d] }
  | _ => none }
def FnExactSheetWordWrongFalsely : Prop := fnExactSheetWordRow.holds Try.pinned (OpenSpec.ofChange fnExactSheetWordWrong)

/-- 'laws.FnExactSheetWords': WHATEVER THE INPUT: true; the input reads as it did. -/
def fnExactSheetWordsSpec : ChangeSpec := { name := "fnExactSheetWords", fn := fun _ => fun
  | [d] => { results := [.lit (.bool true)], args := [d] }
  | _ => none }
def fnExactSheetWordsRow : OpenClaim := { program := "ytkppdeobinefbaa", sum := "683a9cb3748e756a618712ddadc1011e74d96bd3ce957c212eb1a62512599a1a", func := "loop.example/wharfdesk/laws.FnExactSheetWords", spec := "fnExactSheetWords", inPlace := ["internal/bytealg.IndexByteString"], apart := false }
def FnExactSheetWordsSaid : Prop := fnExactSheetWordsRow.holds Try.pinned (OpenSpec.ofChange fnExactSheetWordsSpec)

/-- ITS FALSE NEIGHBOUR: 'it returns false'. Refute it at one input. -/
def fnExactSheetWordsWrong : ChangeSpec := { name := "fnExactSheetWords", fn := fun _ => fun
  | [d] => { results := [.lit (.bool false)], args := [d] }
  | _ => none }
def FnExactSheetWordsWrongFalsely : Prop := fnExactSheetWordsRow.holds Try.pinned (OpenSpec.ofChange fnExactSheetWordsWrong)

/-- 'laws.FnSheetWords': WHATEVER THE INPUT: true; the input reads as it did. -/
def fnSheetWordsSpec : ChangeSpec := { name := "fnSheetWords", fn := fun _ => fun
  | [d] => { results := [.lit (.bool true)], args := [d] }
  | _ => none }
def fnSheetWordsRow : OpenClaim := { program := "ytkppdeobinefbaa", sum := "683a9cb3748e756a618712ddadc1011e74d96bd3ce957c212eb1a62512599a1a", func := "loop.example/wharfdesk/laws.FnSheetWords", spec := "fnSheetWords", inPlace := ["internal/bytealg.IndexByteString"], apart := false }
def FnSheetWordsSaid : Prop := fnSheetWordsRow.holds Try.pinned (OpenSpec.ofChange fnSheetWordsSpec)

/-- ITS FALSE NEIGHBOUR: 'it returns false'. Refute it at one input. -/
def fnSheetWordsWrong : ChangeSpec := { name := "fnSheetWords", fn := fun _ => fun
  | [d] => { results := [.lit (.bool false)], args := [d] }
  | _ => none }
def FnSheetWordsWrongFalsely : Prop := fnSheetWordsRow.holds Try.pinned (OpenSpec.ofChange fnSheetWordsWrong)

/- THE SECOND FORM. 'bulk': how many values and letters a reading holds, each counted each time it is reached (what is shared counts as often as it is met; a slice's spare places count too). A statement '..UptoSaid' is the law's where the arguments, and the package variables that the reading takes, are together of bulk at most 1048576: NARROWER than '..Said'. Prove '..Said' where nothing that the law and all that it calls make is longer than what came in: it says more and counts as full. Else prove '..UptoSaid'. A law counts once. -/
mutual
def uptoBulk {H : Type} : DataW H → Nat
  | .lit (.string bytes) => bytes.length + 1
  | .lit _ => 1
  | .nil => 1
  | .ptr d => uptoBulk d + 1
  | .slice elems spare => uptoBulkAll elems + uptoBulkAll spare + 1
  | .agg parts => uptoBulkAll parts + 1
  | .iface _ d => uptoBulk d + 1
  | .map entries => uptoBulkEntries entries + 1
  | .held _ => 1
def uptoBulkAll {H : Type} : List (DataW H) → Nat
  | [] => 0
  | d :: r => uptoBulk d + uptoBulkAll r
def uptoBulkEntries {H : Type} : List (Lit × DataW H) → Nat
  | [] => 0
  | x :: r => uptoBulkEntry x + uptoBulkEntries r
def uptoBulkEntry {H : Type} : Lit × DataW H → Nat
  | (.string bytes, d) => bytes.length + uptoBulk d + 1
  | (_, d) => uptoBulk d + 1
 end
def uptoSmall : (H : Type) → List (DataW H) → Bool := fun _ ds => decide (uptoBulkAll ds ≤ 1048576)
def OpenSpec.upto (s : _root_.Go.ChangeSpec) : _root_.Go.OpenSpec := { _root_.Go.OpenSpec.ofChange s with cond := some uptoSmall }

/-- 'laws.FnExactSheetWord', WHERE WHAT IT READS IS OF BULK AT MOST 1048576: true; the input reads as it did. -/
def fnExactSheetWordUptoRow : OpenClaim := { program := "ytkppdeobinefbaa", sum := "683a9cb3748e756a618712ddadc1011e74d96bd3ce957c212eb1a62512599a1a", func := "loop.example/wharfdesk/laws.FnExactSheetWord", spec := "fnExactSheetWord", apart := false, narrowed := true }
def FnExactSheetWordUptoSaid : Prop := fnExactSheetWordUptoRow.holds Try.pinned (OpenSpec.upto fnExactSheetWordSpec)

/-- 'laws.FnExactSheetWords', WHERE WHAT IT READS IS OF BULK AT MOST 1048576: true; the input reads as it did. -/
def fnExactSheetWordsUptoRow : OpenClaim := { program := "ytkppdeobinefbaa", sum := "683a9cb3748e756a618712ddadc1011e74d96bd3ce957c212eb1a62512599a1a", func := "loop.example/wharfdesk/laws.FnExactSheetWords", spec := "fnExactSheetWords", inPlace := ["internal/bytealg.IndexByteString"], apart := false, narrowed := true }
def FnExactSheetWordsUptoSaid : Prop := fnExactSheetWordsUptoRow.holds Try.pinned (OpenSpec.upto fnExactSheetWordsSpec)

/-- 'laws.FnSheetWords', WHERE WHAT IT READS IS OF BULK AT MOST 1048576: true; the input reads as it did. -/
def fnSheetWordsUptoRow : OpenClaim := { program := "ytkppdeobinefbaa", sum := "683a9cb3748e756a618712ddadc1011e74d96bd3ce957c212eb1a62512599a1a", func := "loop.example/wharfdesk/laws.FnSheetWords", spec := "fnSheetWords", inPlace := ["internal/bytealg.IndexByteString"], apart := false, narrowed := true }
def FnSheetWordsUptoSaid : Prop := fnSheetWordsUptoRow.holds Try.pinned (OpenSpec.upto fnSheetWordsSpec)

end Rows
end Go.Proofs.Ytkppdeobinefbaa
