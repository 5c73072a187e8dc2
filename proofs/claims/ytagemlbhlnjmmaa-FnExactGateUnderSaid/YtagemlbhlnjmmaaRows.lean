/-
  No cell of these rows narrows 'for every input' (looked for: loops, veiled, ifaces, maps, wideKeys, modest, calm, conditions, laid).
  DERIVED. THE GIVEN ROWS OF THIS SEAT. 6 by the template 'for every input the law returns true; each argument reads behind the call as it read before'; 0 by the template 'total and deterministic' (their statements: YtagemlbhlnjmmaaTotals.lean).
  GIVEN WITH THE SEED: the statements are not yours to turn. If you find one false, say at which input.
  Laid BY PROGRAM, IN A SANDBOX (cutbox-rows.mjs): the forced cells as the released guide's own fill.sh prints them over the translation e3f836f4844e9f84… (all of the seat's roots in one cut). By AI agents, Wed Nov 11 2026. No macro, syntax, notation, axiom, sorry.
-/
import Derived.Test.YtagemlbhlnjmmaaChecked
import GoSem.Claim
import GoSem.ClaimJoined
import GoSem.ClaimMapViews
import Derived.JoinedTies
import Derived.KernelRfl
namespace Go.Proofs.Ytagemlbhlnjmmaa
/- THE CELL 'sum', in the pinned program and in every row, IS THE sha256 OF THE DUMP (.gsa) THAT YtagemlbhlnjmmaaProg.lean LOADS. Nothing in Lean hashes anything: it is a label: what it is worth is what the hold of that sum in a sandbox is worth. -/
noncomputable def Try.pinned : Pinned := { name := "ytagemlbhlnjmmaa", sum := "e3f836f4844e9f84e958e12af834a7c02aa8f147687c129d51a8ba05cc8e07d8", checked := Try.checked }
namespace Rows
def none {H : Type} : Left H := { results := [], args := [] }

/-- 'laws.FnExactConstants': WHATEVER THE INPUT: true; the input reads as it did. -/
def fnExactConstantsSpec : ChangeSpec := { name := "fnExactConstants", fn := fun _ => fun
  | [] => { results := [.lit (.bool true)], args := [] }
  | _ => none }
def fnExactConstantsRow : OpenClaim := { program := "ytagemlbhlnjmmaa", sum := "e3f836f4844e9f84e958e12af834a7c02aa8f147687c129d51a8ba05cc8e07d8", func := "loop.example/wharfdesk/laws.FnExactConstants", spec := "fnExactConstants", apart := false }
def FnExactConstantsSaid : Prop := fnExactConstantsRow.holds Try.pinned (OpenSpec.ofChange fnExactConstantsSpec)

/-- ITS FALSE NEIGHBOUR: 'it returns false'. Refute it at one input. -/
def fnExactConstantsWrong : ChangeSpec := { name := "fnExactConstants", fn := fun _ => fun
  | [] => { results := [.lit (.bool false)], args := [] }
  | _ => none }
def FnExactConstantsWrongFalsely : Prop := fnExactConstantsRow.holds Try.pinned (OpenSpec.ofChange fnExactConstantsWrong)

/-- 'laws.FnExactRecNextBallot': WHATEVER THE INPUT: true; the input reads as it did. -/
def fnExactRecNextBallotSpec : ChangeSpec := { name := "fnExactRecNextBallot", fn := fun _ => fun
  | [d1, d2, d3] => { results := [.lit (.bool true)], args := [d1, d2, d3] }
  | _ => none }
def fnExactRecNextBallotRow : OpenClaim := { program := "ytagemlbhlnjmmaa", sum := "e3f836f4844e9f84e958e12af834a7c02aa8f147687c129d51a8ba05cc8e07d8", func := "loop.example/wharfdesk/laws.FnExactRecNextBallot", spec := "fnExactRecNextBallot", apart := false }
def FnExactRecNextBallotSaid : Prop := fnExactRecNextBallotRow.holds Try.pinned (OpenSpec.ofChange fnExactRecNextBallotSpec)

/-- ITS FALSE NEIGHBOUR: 'it returns false'. Refute it at one input. -/
def fnExactRecNextBallotWrong : ChangeSpec := { name := "fnExactRecNextBallot", fn := fun _ => fun
  | [d1, d2, d3] => { results := [.lit (.bool false)], args := [d1, d2, d3] }
  | _ => none }
def FnExactRecNextBallotWrongFalsely : Prop := fnExactRecNextBallotRow.holds Try.pinned (OpenSpec.ofChange fnExactRecNextBallotWrong)

/-- 'laws.FnExactSheetWord': WHATEVER THE INPUT: true; the input reads as it did. -/
def fnExactSheetWordSpec : ChangeSpec := { name := "fnExactSheetWord", fn := fun _ => fun
  | [d] => { results := [.lit (.bool true)], args := [d] }
  | _ => none }
def fnExactSheetWordRow : OpenClaim := { program := "ytagemlbhlnjmmaa", sum := "e3f836f4844e9f84e958e12af834a7c02aa8f147687c129d51a8ba05cc8e07d8", func := "loop.example/wharfdesk/laws.FnExactSheetWord", spec := "fnExactSheetWord", apart := false }
def FnExactSheetWordSaid : Prop := fnExactSheetWordRow.holds Try.pinned (OpenSpec.ofChange fnExactSheetWordSpec)

/-- ITS FALSE NEIGHBOUR: 'it returns false'. Refute it at one input. -/
def fnExactSheetWordWrong : ChangeSpec := { name := "fnExactSheetWord", fn := fun _ => fun
  | [d] => { results := [.lit (.bool false)], args := [d] }
  | _ => none }
def FnExactSheetWordWrongFalsely : Prop := fnExactSheetWordRow.holds Try.pinned (OpenSpec.ofChange fnExactSheetWordWrong)

/-- 'laws.FnExactDeskOk': WHATEVER THE INPUT: true; the input reads as it did. -/
def fnExactDeskOkSpec : ChangeSpec := { name := "fnExactDeskOk", fn := fun _ => fun
  | [d] => { results := [.lit (.bool true)], args := [d] }
  | _ => none }
def fnExactDeskOkRow : OpenClaim := { program := "ytagemlbhlnjmmaa", sum := "e3f836f4844e9f84e958e12af834a7c02aa8f147687c129d51a8ba05cc8e07d8", func := "loop.example/wharfdesk/laws.FnExactDeskOk", spec := "fnExactDeskOk", apart := false }
def FnExactDeskOkSaid : Prop := fnExactDeskOkRow.holds Try.pinned (OpenSpec.ofChange fnExactDeskOkSpec)

/-- ITS FALSE NEIGHBOUR: 'it returns false'. Refute it at one input. -/
def fnExactDeskOkWrong : ChangeSpec := { name := "fnExactDeskOk", fn := fun _ => fun
  | [d] => { results := [.lit (.bool false)], args := [d] }
  | _ => none }
def FnExactDeskOkWrongFalsely : Prop := fnExactDeskOkRow.holds Try.pinned (OpenSpec.ofChange fnExactDeskOkWrong)

/-- 'laws.FnExactGateUnder': WHATEVER THE INPUT: true; the input reads as it did. -/
def fnExactGateUnderSpec : ChangeSpec := { name := "fnExactGateUnder", fn := fun _ => fun
  | [d1, d2, d3] => { results := [.lit (.bool true)], args := [d1, d2, d3] }
  | _ => none }
def fnExactGateUnderRow : OpenClaim := { program := "ytagemlbhlnjmmaa", sum := "e3f836f4844e9f84e958e12af834a7c02aa8f147687c129d51a8ba05cc8e07d8", func := "loop.example/wharfdesk/laws.FnExactGateUnder", spec := "fnExactGateUnder", apart := false }
def FnExactGateUnderSaid : Prop := fnExactGateUnderRow.holds Try.pinned (OpenSpec.ofChange fnExactGateUnderSpec)

/-- ITS FALSE NEIGHBOUR: 'it returns false'. Refute it at one input. -/
def fnExactGateUnderWrong : ChangeSpec := { name := "fnExactGateUnder", fn := fun _ => fun
  | [d1, d2, d3] => { results := [.lit (.bool false)], args := [d1, d2, d3] }
  | _ => none }
def FnExactGateUnderWrongFalsely : Prop := fnExactGateUnderRow.holds Try.pinned (OpenSpec.ofChange fnExactGateUnderWrong)

/-- 'laws.FnExactRecMerge': WHATEVER THE INPUT: true; the input reads as it did. -/
def fnExactRecMergeSpec : ChangeSpec := { name := "fnExactRecMerge", fn := fun _ => fun
  | [d1, d2] => { results := [.lit (.bool true)], args := [d1, d2] }
  | _ => none }
def fnExactRecMergeRow : OpenClaim := { program := "ytagemlbhlnjmmaa", sum := "e3f836f4844e9f84e958e12af834a7c02aa8f147687c129d51a8ba05cc8e07d8", func := "loop.example/wharfdesk/laws.FnExactRecMerge", spec := "fnExactRecMerge", apart := false }
def FnExactRecMergeSaid : Prop := fnExactRecMergeRow.holds Try.pinned (OpenSpec.ofChange fnExactRecMergeSpec)

/-- ITS FALSE NEIGHBOUR: 'it returns false'. Refute it at one input. -/
def fnExactRecMergeWrong : ChangeSpec := { name := "fnExactRecMerge", fn := fun _ => fun
  | [d1, d2] => { results := [.lit (.bool false)], args := [d1, d2] }
  | _ => none }
def FnExactRecMergeWrongFalsely : Prop := fnExactRecMergeRow.holds Try.pinned (OpenSpec.ofChange fnExactRecMergeWrong)

/- THE SECOND FORM. 'bulk': how many values and letters a reading holds, each counted each time it is reached (what is shared counts as often as it is met; a slice's spare places count too). A statement '..UptoSaid' is the law's where the arguments, and the package variables that the reading takes, are together of bulk at most 1048576: NARROWER than '..Said'. Prove '..Said' where nothing that the law and all that it calls make is longer than what came in: it says more and counts as full. Else prove '..UptoSaid'. A law counts once. -/
mutual
def uptoBulk {H : Type} : DataW H → Nat
  | .lit (.string bytes) => bytes.length + 1
  | .lit _ => 1
  | .nil => 1
  | .ptr d => uptoBulk d + 1
  | .slice elems spare => uptoBulkAll elems + uptoBulkAll spare + 1
  | .agg parts => uptoBulkAll parts + 1
  | .iface _ d => uptoBulk d + 1
  | .map entries => uptoBulkEntries entries + 1
  | .held _ => 1
def uptoBulkAll {H : Type} : List (DataW H) → Nat
  | [] => 0
  | d :: r => uptoBulk d + uptoBulkAll r
def uptoBulkEntries {H : Type} : List (Lit × DataW H) → Nat
  | [] => 0
  | x :: r => uptoBulkEntry x + uptoBulkEntries r
def uptoBulkEntry {H : Type} : Lit × DataW H → Nat
  | (.string bytes, d) => bytes.length + uptoBulk d + 1
  | (_, d) => uptoBulk d + 1
 end
def uptoSmall : (H : Type) → List (DataW H) → Bool := fun _ ds => decide (uptoBulkAll ds ≤ 1048576)
def OpenSpec.upto (s : _root_.Go.ChangeSpec) : _root_.Go.OpenSpec := { _root_.Go.OpenSpec.ofChange s with cond := some uptoSmall }

/-- 'laws.FnExactConstants', WHERE WHAT IT READS IS OF BULK AT MOST 1048576: true; the input reads as it did. -/
def fnExactConstantsUptoRow : OpenClaim := { program := "ytagemlbhlnjmmaa", sum := "e3f836f4844e9f84e958e12af834a7c02aa8f147687c129d51a8ba05cc8e07d8", func := "loop.example/wharfdesk/laws.FnExactConstants", spec := "fnExactConstants", apart := false, narrowed := true }
def FnExactConstantsUptoSaid : Prop := fnExactConstantsUptoRow.holds Try.pinned (OpenSpec.upto fnExactConstantsSpec)

/-- 'laws.FnExactRecNextBallot', WHERE WHAT IT READS IS OF BULK AT MOST 1048576: true; the input reads as it did. -/
def fnExactRecNextBallotUptoRow : OpenClaim := { program := "ytagemlbhlnjmmaa", sum := "e3f836f4844e9f84e958e12af834a7c02aa8f147687c129d51a8ba05cc8e07d8", func := "loop.example/wharfdesk/laws.FnExactRecNextBallot", spec := "fnExactRecNextBallot", apart := false, narrowed := true }
def FnExactRecNextBallotUptoSaid : Prop := fnExactRecNextBallotUptoRow.holds Try.pinned (OpenSpec.upto fnExactRecNextBallotSpec)

/-- 'laws.FnExactSheetWord', WHERE WHAT IT READS IS OF BULK AT MOST 1048576: true; the input reads as it did. -/
def fnExactSheetWordUptoRow : OpenClaim := { program := "ytagemlbhlnjmmaa", sum := "e3f836f4844e9f84e958e12af834a7c02aa8f147687c129d51a8ba05cc8e07d8", func := "loop.example/wharfdesk/laws.FnExactSheetWord", spec := "fnExactSheetWord", apart := false, narrowed := true }
def FnExactSheetWordUptoSaid : Prop := fnExactSheetWordUptoRow.holds Try.pinned (OpenSpec.upto fnExactSheetWordSpec)

/-- 'laws.FnExactDeskOk', WHERE WHAT IT READS IS OF BULK AT MOST 1048576: true; the input reads as it did. -/
def fnExactDeskOkUptoRow : OpenClaim := { program := "ytagemlbhlnjmmaa", sum := "e3f836f4844e9f84e958e12af834a7c02aa8f147687c129d51a8ba05cc8e07d8", func := "loop.example/wharfdesk/laws.FnExactDeskOk", spec := "fnExactDeskOk", apart := false, narrowed := true }
def FnExactDeskOkUptoSaid : Prop := fnExactDeskOkUptoRow.holds Try.pinned (OpenSpec.upto fnExactDeskOkSpec)

/-- 'laws.FnExactGateUnder', WHERE WHAT IT READS IS OF BULK AT MOST 1048576: true; the input reads as it did. -/
def fnExactGateUnderUptoRow : OpenClaim := { program := "ytagemlbhlnjmmaa", sum := "e3f836f4844e9f84e958e12af834a7c02aa8f147687c129d51a8ba05cc8e07d8", func := "loop.example/wharfdesk/laws.FnExactGateUnder", spec := "fnExactGateUnder", apart := false, narrowed := true }
def FnExactGateUnderUptoSaid : Prop := fnExactGateUnderUptoRow.holds Try.pinned (OpenSpec.upto fnExactGateUnderSpec)

/-- 'laws.FnExactRecMerge', WHERE WHAT IT READS IS OF BULK AT MOST 1048576: true; the input reads as it did. -/
def fnExactRecMergeUptoRow : OpenClaim := { program := "ytagemlbhlnjmmaa", sum := "e3f836f4844e9f84e958e12af834a7c02aa8f147687c129d51a8ba05cc8e07d8", func := "loop.example/wharfdesk/laws.FnExactRecMerge", spec := "fnExactRecMerge", apart := false, narrowed := true }
def FnExactRecMergeUptoSaid : Prop := fnExactRecMergeUptoRow.holds Try.pinned (OpenSpec.upto fnExactRecMergeSpec)

end Rows
end Go.Proofs.Ytagemlbhlnjmmaa
