/-
  No cell of these rows narrows 'for every input' (looked for: loops, veiled, ifaces, maps, wideKeys, modest, calm, conditions, laid).
  DERIVED. THE GIVEN ROWS OF THIS SEAT. 16 by the template 'for every input the law returns true; each argument reads behind the call as it read before'; 0 by the template 'total and deterministic' (their statements: YtleilaipdhmgeaaTotals.lean).
  GIVEN WITH THE SEED: the statements are not yours to turn. If you find one false, say at which input.
  Laid BY PROGRAM, IN A SANDBOX (cutbox-rows.mjs): the forced cells as the released guide's own fill.sh prints them over the translation cd3d80a4adb1c8e9… (all of the seat's roots in one cut). By AI agents, Wed Nov 11 2026. No macro, syntax, notation, axiom, sorry.
-/
import Derived.Test.YtleilaipdhmgeaaChecked
import GoSem.Claim
import GoSem.ClaimJoined
import GoSem.ClaimMapViews
import Derived.JoinedTies
import Derived.KernelRfl
namespace Go.Proofs.Ytleilaipdhmgeaa
/- THE CELL 'sum', in the pinned program and in every row, IS THE sha256 OF THE DUMP (.gsa) THAT YtleilaipdhmgeaaProg.lean LOADS. Nothing in Lean hashes anything: it is a label: what it is worth is what the hold of that sum in a sandbox is worth. -/
noncomputable def Try.pinned : Pinned := { name := "ytleilaipdhmgeaa", sum := "cd3d80a4adb1c8e9554cd9421e20f6afe7e87c2706e44a4a43cdc91d90ba9136", checked := Try.checked }
namespace Rows
def none {H : Type} : Left H := { results := [], args := [] }

/-- 'laws.FnExactRecNextBallot': WHATEVER THE INPUT: true; the input reads as it did. -/
def fnExactRecNextBallotSpec : ChangeSpec := { name := "fnExactRecNextBallot", fn := fun _ => fun
  | [d1, d2, d3] => { results := [.lit (.bool true)], args := [d1, d2, d3] }
  | _ => none }
def fnExactRecNextBallotRow : OpenClaim := { program := "ytleilaipdhmgeaa", sum := "cd3d80a4adb1c8e9554cd9421e20f6afe7e87c2706e44a4a43cdc91d90ba9136", func := "loop.example/wharfdesk/laws.FnExactRecNextBallot", spec := "fnExactRecNextBallot", plainKeys := false, apart := false }
def FnExactRecNextBallotSaid : Prop := fnExactRecNextBallotRow.holds Try.pinned (OpenSpec.ofChange fnExactRecNextBallotSpec)

/-- ITS FALSE NEIGHBOUR: 'it returns false'. Refute it at one input. -/
def fnExactRecNextBallotWrong : ChangeSpec := { name := "fnExactRecNextBallot", fn := fun _ => fun
  | [d1, d2, d3] => { results := [.lit (.bool false)], args := [d1, d2, d3] }
  | _ => none }
def FnExactRecNextBallotWrongFalsely : Prop := fnExactRecNextBallotRow.holds Try.pinned (OpenSpec.ofChange fnExactRecNextBallotWrong)

/-- 'laws.FnExactRecMerge': WHATEVER THE INPUT: true; the input reads as it did. -/
def fnExactRecMergeSpec : ChangeSpec := { name := "fnExactRecMerge", fn := fun _ => fun
  | [d1, d2] => { results := [.lit (.bool true)], args := [d1, d2] }
  | _ => none }
def fnExactRecMergeRow : OpenClaim := { program := "ytleilaipdhmgeaa", sum := "cd3d80a4adb1c8e9554cd9421e20f6afe7e87c2706e44a4a43cdc91d90ba9136", func := "loop.example/wharfdesk/laws.FnExactRecMerge", spec := "fnExactRecMerge", plainKeys := false, apart := false }
def FnExactRecMergeSaid : Prop := fnExactRecMergeRow.holds Try.pinned (OpenSpec.ofChange fnExactRecMergeSpec)

/-- ITS FALSE NEIGHBOUR: 'it returns false'. Refute it at one input. -/
def fnExactRecMergeWrong : ChangeSpec := { name := "fnExactRecMerge", fn := fun _ => fun
  | [d1, d2] => { results := [.lit (.bool false)], args := [d1, d2] }
  | _ => none }
def FnExactRecMergeWrongFalsely : Prop := fnExactRecMergeRow.holds Try.pinned (OpenSpec.ofChange fnExactRecMergeWrong)

/-- 'laws.FnExactRecDiskOk': WHATEVER THE INPUT: true; the input reads as it did. -/
def fnExactRecDiskOkSpec : ChangeSpec := { name := "fnExactRecDiskOk", fn := fun _ => fun
  | [d] => { results := [.lit (.bool true)], args := [d] }
  | _ => none }
def fnExactRecDiskOkRow : OpenClaim := { program := "ytleilaipdhmgeaa", sum := "cd3d80a4adb1c8e9554cd9421e20f6afe7e87c2706e44a4a43cdc91d90ba9136", func := "loop.example/wharfdesk/laws.FnExactRecDiskOk", spec := "fnExactRecDiskOk", plainKeys := false, apart := false }
def FnExactRecDiskOkSaid : Prop := fnExactRecDiskOkRow.holds Try.pinned (OpenSpec.ofChange fnExactRecDiskOkSpec)

/-- ITS FALSE NEIGHBOUR: 'it returns false'. Refute it at one input. -/
def fnExactRecDiskOkWrong : ChangeSpec := { name := "fnExactRecDiskOk", fn := fun _ => fun
  | [d] => { results := [.lit (.bool false)], args := [d] }
  | _ => none }
def FnExactRecDiskOkWrongFalsely : Prop := fnExactRecDiskOkRow.holds Try.pinned (OpenSpec.ofChange fnExactRecDiskOkWrong)

/-- 'laws.FnExactRecMessageOk': WHATEVER THE INPUT: true; the input reads as it did. -/
def fnExactRecMessageOkSpec : ChangeSpec := { name := "fnExactRecMessageOk", fn := fun _ => fun
  | [d1, d2] => { results := [.lit (.bool true)], args := [d1, d2] }
  | _ => none }
def fnExactRecMessageOkRow : OpenClaim := { program := "ytleilaipdhmgeaa", sum := "cd3d80a4adb1c8e9554cd9421e20f6afe7e87c2706e44a4a43cdc91d90ba9136", func := "loop.example/wharfdesk/laws.FnExactRecMessageOk", spec := "fnExactRecMessageOk", plainKeys := false, apart := false }
def FnExactRecMessageOkSaid : Prop := fnExactRecMessageOkRow.holds Try.pinned (OpenSpec.ofChange fnExactRecMessageOkSpec)

/-- ITS FALSE NEIGHBOUR: 'it returns false'. Refute it at one input. -/
def fnExactRecMessageOkWrong : ChangeSpec := { name := "fnExactRecMessageOk", fn := fun _ => fun
  | [d1, d2] => { results := [.lit (.bool false)], args := [d1, d2] }
  | _ => none }
def FnExactRecMessageOkWrongFalsely : Prop := fnExactRecMessageOkRow.holds Try.pinned (OpenSpec.ofChange fnExactRecMessageOkWrong)

/-- 'laws.FnExactRecNew': WHATEVER THE INPUT: true; the input reads as it did. -/
def fnExactRecNewSpec : ChangeSpec := { name := "fnExactRecNew", fn := fun _ => fun
  | [d1, d2] => { results := [.lit (.bool true)], args := [d1, d2] }
  | _ => none }
def fnExactRecNewRow : OpenClaim := { program := "ytleilaipdhmgeaa", sum := "cd3d80a4adb1c8e9554cd9421e20f6afe7e87c2706e44a4a43cdc91d90ba9136", func := "loop.example/wharfdesk/laws.FnExactRecNew", spec := "fnExactRecNew", plainKeys := false, apart := false }
def FnExactRecNewSaid : Prop := fnExactRecNewRow.holds Try.pinned (OpenSpec.ofChange fnExactRecNewSpec)

/-- ITS FALSE NEIGHBOUR: 'it returns false'. Refute it at one input. -/
def fnExactRecNewWrong : ChangeSpec := { name := "fnExactRecNew", fn := fun _ => fun
  | [d1, d2] => { results := [.lit (.bool false)], args := [d1, d2] }
  | _ => none }
def FnExactRecNewWrongFalsely : Prop := fnExactRecNewRow.holds Try.pinned (OpenSpec.ofChange fnExactRecNewWrong)

/-- 'laws.FnExactRecValid': WHATEVER THE INPUT: true; the input reads as it did. -/
def fnExactRecValidSpec : ChangeSpec := { name := "fnExactRecValid", fn := fun _ => fun
  | [d] => { results := [.lit (.bool true)], args := [d] }
  | _ => none }
def fnExactRecValidRow : OpenClaim := { program := "ytleilaipdhmgeaa", sum := "cd3d80a4adb1c8e9554cd9421e20f6afe7e87c2706e44a4a43cdc91d90ba9136", func := "loop.example/wharfdesk/laws.FnExactRecValid", spec := "fnExactRecValid", plainKeys := false, apart := false }
def FnExactRecValidSaid : Prop := fnExactRecValidRow.holds Try.pinned (OpenSpec.ofChange fnExactRecValidSpec)

/-- ITS FALSE NEIGHBOUR: 'it returns false'. Refute it at one input. -/
def fnExactRecValidWrong : ChangeSpec := { name := "fnExactRecValid", fn := fun _ => fun
  | [d] => { results := [.lit (.bool false)], args := [d] }
  | _ => none }
def FnExactRecValidWrongFalsely : Prop := fnExactRecValidRow.holds Try.pinned (OpenSpec.ofChange fnExactRecValidWrong)

/-- 'laws.FnExactRecNewWorld': WHATEVER THE INPUT: true; the input reads as it did. -/
def fnExactRecNewWorldSpec : ChangeSpec := { name := "fnExactRecNewWorld", fn := fun _ => fun
  | [d] => { results := [.lit (.bool true)], args := [d] }
  | _ => none }
def fnExactRecNewWorldRow : OpenClaim := { program := "ytleilaipdhmgeaa", sum := "cd3d80a4adb1c8e9554cd9421e20f6afe7e87c2706e44a4a43cdc91d90ba9136", func := "loop.example/wharfdesk/laws.FnExactRecNewWorld", spec := "fnExactRecNewWorld", plainKeys := false, apart := false }
def FnExactRecNewWorldSaid : Prop := fnExactRecNewWorldRow.holds Try.pinned (OpenSpec.ofChange fnExactRecNewWorldSpec)

/-- ITS FALSE NEIGHBOUR: 'it returns false'. Refute it at one input. -/
def fnExactRecNewWorldWrong : ChangeSpec := { name := "fnExactRecNewWorld", fn := fun _ => fun
  | [d] => { results := [.lit (.bool false)], args := [d] }
  | _ => none }
def FnExactRecNewWorldWrongFalsely : Prop := fnExactRecNewWorldRow.holds Try.pinned (OpenSpec.ofChange fnExactRecNewWorldWrong)

/-- 'laws.FnExactRecBook': WHATEVER THE INPUT: true; the input reads as it did. -/
def fnExactRecBookSpec : ChangeSpec := { name := "fnExactRecBook", fn := fun _ => fun
  | [d] => { results := [.lit (.bool true)], args := [d] }
  | _ => none }
def fnExactRecBookRow : OpenClaim := { program := "ytleilaipdhmgeaa", sum := "cd3d80a4adb1c8e9554cd9421e20f6afe7e87c2706e44a4a43cdc91d90ba9136", func := "loop.example/wharfdesk/laws.FnExactRecBook", spec := "fnExactRecBook", plainKeys := false, apart := false }
def FnExactRecBookSaid : Prop := fnExactRecBookRow.holds Try.pinned (OpenSpec.ofChange fnExactRecBookSpec)

/-- ITS FALSE NEIGHBOUR: 'it returns false'. Refute it at one input. -/
def fnExactRecBookWrong : ChangeSpec := { name := "fnExactRecBook", fn := fun _ => fun
  | [d] => { results := [.lit (.bool false)], args := [d] }
  | _ => none }
def FnExactRecBookWrongFalsely : Prop := fnExactRecBookRow.holds Try.pinned (OpenSpec.ofChange fnExactRecBookWrong)

/-- 'laws.FnExactRecWorldOk': WHATEVER THE INPUT: true; the input reads as it did. -/
def fnExactRecWorldOkSpec : ChangeSpec := { name := "fnExactRecWorldOk", fn := fun _ => fun
  | [d] => { results := [.lit (.bool true)], args := [d] }
  | _ => none }
def fnExactRecWorldOkRow : OpenClaim := { program := "ytleilaipdhmgeaa", sum := "cd3d80a4adb1c8e9554cd9421e20f6afe7e87c2706e44a4a43cdc91d90ba9136", func := "loop.example/wharfdesk/laws.FnExactRecWorldOk", spec := "fnExactRecWorldOk", plainKeys := false, apart := false }
def FnExactRecWorldOkSaid : Prop := fnExactRecWorldOkRow.holds Try.pinned (OpenSpec.ofChange fnExactRecWorldOkSpec)

/-- ITS FALSE NEIGHBOUR: 'it returns false'. Refute it at one input. -/
def fnExactRecWorldOkWrong : ChangeSpec := { name := "fnExactRecWorldOk", fn := fun _ => fun
  | [d] => { results := [.lit (.bool false)], args := [d] }
  | _ => none }
def FnExactRecWorldOkWrongFalsely : Prop := fnExactRecWorldOkRow.holds Try.pinned (OpenSpec.ofChange fnExactRecWorldOkWrong)

/-- 'laws.FnExactRecMajor': WHATEVER THE INPUT: true; the input reads as it did. -/
def fnExactRecMajorSpec : ChangeSpec := { name := "fnExactRecMajor", fn := fun _ => fun
  | [d1, d2] => { results := [.lit (.bool true)], args := [d1, d2] }
  | _ => none }
def fnExactRecMajorRow : OpenClaim := { program := "ytleilaipdhmgeaa", sum := "cd3d80a4adb1c8e9554cd9421e20f6afe7e87c2706e44a4a43cdc91d90ba9136", func := "loop.example/wharfdesk/laws.FnExactRecMajor", spec := "fnExactRecMajor", plainKeys := false, apart := false }
def FnExactRecMajorSaid : Prop := fnExactRecMajorRow.holds Try.pinned (OpenSpec.ofChange fnExactRecMajorSpec)

/-- ITS FALSE NEIGHBOUR: 'it returns false'. Refute it at one input. -/
def fnExactRecMajorWrong : ChangeSpec := { name := "fnExactRecMajor", fn := fun _ => fun
  | [d1, d2] => { results := [.lit (.bool false)], args := [d1, d2] }
  | _ => none }
def FnExactRecMajorWrongFalsely : Prop := fnExactRecMajorRow.holds Try.pinned (OpenSpec.ofChange fnExactRecMajorWrong)

/-- 'laws.FnExactRecFall': WHATEVER THE INPUT: true; the input reads as it did. -/
def fnExactRecFallSpec : ChangeSpec := { name := "fnExactRecFall", fn := fun _ => fun
  | [d] => { results := [.lit (.bool true)], args := [d] }
  | _ => none }
def fnExactRecFallRow : OpenClaim := { program := "ytleilaipdhmgeaa", sum := "cd3d80a4adb1c8e9554cd9421e20f6afe7e87c2706e44a4a43cdc91d90ba9136", func := "loop.example/wharfdesk/laws.FnExactRecFall", spec := "fnExactRecFall", plainKeys := false, apart := false }
def FnExactRecFallSaid : Prop := fnExactRecFallRow.holds Try.pinned (OpenSpec.ofChange fnExactRecFallSpec)

/-- ITS FALSE NEIGHBOUR: 'it returns false'. Refute it at one input. -/
def fnExactRecFallWrong : ChangeSpec := { name := "fnExactRecFall", fn := fun _ => fun
  | [d] => { results := [.lit (.bool false)], args := [d] }
  | _ => none }
def FnExactRecFallWrongFalsely : Prop := fnExactRecFallRow.holds Try.pinned (OpenSpec.ofChange fnExactRecFallWrong)

/-- 'laws.FnExactRecAgree': WHATEVER THE INPUT: true; the input reads as it did. -/
def fnExactRecAgreeSpec : ChangeSpec := { name := "fnExactRecAgree", fn := fun _ => fun
  | [d] => { results := [.lit (.bool true)], args := [d] }
  | _ => none }
def fnExactRecAgreeRow : OpenClaim := { program := "ytleilaipdhmgeaa", sum := "cd3d80a4adb1c8e9554cd9421e20f6afe7e87c2706e44a4a43cdc91d90ba9136", func := "loop.example/wharfdesk/laws.FnExactRecAgree", spec := "fnExactRecAgree", plainKeys := false, apart := false }
def FnExactRecAgreeSaid : Prop := fnExactRecAgreeRow.holds Try.pinned (OpenSpec.ofChange fnExactRecAgreeSpec)

/-- ITS FALSE NEIGHBOUR: 'it returns false'. Refute it at one input. -/
def fnExactRecAgreeWrong : ChangeSpec := { name := "fnExactRecAgree", fn := fun _ => fun
  | [d] => { results := [.lit (.bool false)], args := [d] }
  | _ => none }
def FnExactRecAgreeWrongFalsely : Prop := fnExactRecAgreeRow.holds Try.pinned (OpenSpec.ofChange fnExactRecAgreeWrong)

/-- 'laws.FnExactRecRise': WHATEVER THE INPUT: true; the input reads as it did. -/
def fnExactRecRiseSpec : ChangeSpec := { name := "fnExactRecRise", fn := fun _ => fun
  | [d] => { results := [.lit (.bool true)], args := [d] }
  | _ => none }
def fnExactRecRiseRow : OpenClaim := { program := "ytleilaipdhmgeaa", sum := "cd3d80a4adb1c8e9554cd9421e20f6afe7e87c2706e44a4a43cdc91d90ba9136", func := "loop.example/wharfdesk/laws.FnExactRecRise", spec := "fnExactRecRise", plainKeys := false, apart := false }
def FnExactRecRiseSaid : Prop := fnExactRecRiseRow.holds Try.pinned (OpenSpec.ofChange fnExactRecRiseSpec)

/-- ITS FALSE NEIGHBOUR: 'it returns false'. Refute it at one input. -/
def fnExactRecRiseWrong : ChangeSpec := { name := "fnExactRecRise", fn := fun _ => fun
  | [d] => { results := [.lit (.bool false)], args := [d] }
  | _ => none }
def FnExactRecRiseWrongFalsely : Prop := fnExactRecRiseRow.holds Try.pinned (OpenSpec.ofChange fnExactRecRiseWrong)

/-- 'laws.FnExactRecWish': WHATEVER THE INPUT: true; the input reads as it did. -/
def fnExactRecWishSpec : ChangeSpec := { name := "fnExactRecWish", fn := fun _ => fun
  | [d1, d2] => { results := [.lit (.bool true)], args := [d1, d2] }
  | _ => none }
def fnExactRecWishRow : OpenClaim := { program := "ytleilaipdhmgeaa", sum := "cd3d80a4adb1c8e9554cd9421e20f6afe7e87c2706e44a4a43cdc91d90ba9136", func := "loop.example/wharfdesk/laws.FnExactRecWish", spec := "fnExactRecWish", plainKeys := false, apart := false }
def FnExactRecWishSaid : Prop := fnExactRecWishRow.holds Try.pinned (OpenSpec.ofChange fnExactRecWishSpec)

/-- ITS FALSE NEIGHBOUR: 'it returns false'. Refute it at one input. -/
def fnExactRecWishWrong : ChangeSpec := { name := "fnExactRecWish", fn := fun _ => fun
  | [d1, d2] => { results := [.lit (.bool false)], args := [d1, d2] }
  | _ => none }
def FnExactRecWishWrongFalsely : Prop := fnExactRecWishRow.holds Try.pinned (OpenSpec.ofChange fnExactRecWishWrong)

/-- 'laws.FnRecMerge': WHATEVER THE INPUT: true; the input reads as it did. -/
def fnRecMergeSpec : ChangeSpec := { name := "fnRecMerge", fn := fun _ => fun
  | [d] => { results := [.lit (.bool true)], args := [d] }
  | _ => none }
def fnRecMergeRow : OpenClaim := { program := "ytleilaipdhmgeaa", sum := "cd3d80a4adb1c8e9554cd9421e20f6afe7e87c2706e44a4a43cdc91d90ba9136", func := "loop.example/wharfdesk/laws.FnRecMerge", spec := "fnRecMerge", recurses := true, plainKeys := false, apart := false }
def FnRecMergeSaid : Prop := fnRecMergeRow.holds Try.pinned (OpenSpec.ofChange fnRecMergeSpec)

/-- ITS FALSE NEIGHBOUR: 'it returns false'. Refute it at one input. -/
def fnRecMergeWrong : ChangeSpec := { name := "fnRecMerge", fn := fun _ => fun
  | [d] => { results := [.lit (.bool false)], args := [d] }
  | _ => none }
def FnRecMergeWrongFalsely : Prop := fnRecMergeRow.holds Try.pinned (OpenSpec.ofChange fnRecMergeWrong)

/-- 'laws.FnRecFalls': WHATEVER THE INPUT: true; the input reads as it did. -/
def fnRecFallsSpec : ChangeSpec := { name := "fnRecFalls", fn := fun _ => fun
  | [d] => { results := [.lit (.bool true)], args := [d] }
  | _ => none }
def fnRecFallsRow : OpenClaim := { program := "ytleilaipdhmgeaa", sum := "cd3d80a4adb1c8e9554cd9421e20f6afe7e87c2706e44a4a43cdc91d90ba9136", func := "loop.example/wharfdesk/laws.FnRecFalls", spec := "fnRecFalls", recurses := true, plainKeys := false, apart := false }
def FnRecFallsSaid : Prop := fnRecFallsRow.holds Try.pinned (OpenSpec.ofChange fnRecFallsSpec)

/-- ITS FALSE NEIGHBOUR: 'it returns false'. Refute it at one input. -/
def fnRecFallsWrong : ChangeSpec := { name := "fnRecFalls", fn := fun _ => fun
  | [d] => { results := [.lit (.bool false)], args := [d] }
  | _ => none }
def FnRecFallsWrongFalsely : Prop := fnRecFallsRow.holds Try.pinned (OpenSpec.ofChange fnRecFallsWrong)

/- THE SECOND FORM. 'bulk': how many values and letters a reading holds, each counted each time it is reached (what is shared counts as often as it is met; a slice's spare places count too). A statement '..UptoSaid' is the law's where the arguments, and the package variables that the reading takes, are together of bulk at most 1048576: NARROWER than '..Said'. Prove '..Said' where nothing that the law and all that it calls make is longer than what came in: it says more and counts as full. Else prove '..UptoSaid'. A law counts once. -/
mutual
def uptoBulk {H : Type} : DataW H → Nat
  | .lit (.string bytes) => bytes.length + 1
  | .lit _ => 1
  | .nil => 1
  | .ptr d => uptoBulk d + 1
  | .slice elems spare => uptoBulkAll elems + uptoBulkAll spare + 1
  | .agg parts => uptoBulkAll parts + 1
  | .iface _ d => uptoBulk d + 1
  | .map entries => uptoBulkEntries entries + 1
  | .held _ => 1
def uptoBulkAll {H : Type} : List (DataW H) → Nat
  | [] => 0
  | d :: r => uptoBulk d + uptoBulkAll r
def uptoBulkEntries {H : Type} : List (Lit × DataW H) → Nat
  | [] => 0
  | x :: r => uptoBulkEntry x + uptoBulkEntries r
def uptoBulkEntry {H : Type} : Lit × DataW H → Nat
  | (.string bytes, d) => bytes.length + uptoBulk d + 1
  | (_, d) => uptoBulk d + 1
 end
def uptoSmall : (H : Type) → List (DataW H) → Bool := fun _ ds => decide (uptoBulkAll ds ≤ 1048576)
def OpenSpec.upto (s : _root_.Go.ChangeSpec) : _root_.Go.OpenSpec := { _root_.Go.OpenSpec.ofChange s with cond := some uptoSmall }

/-- 'laws.FnExactRecNextBallot', WHERE WHAT IT READS IS OF BULK AT MOST 1048576: true; the input reads as it did. -/
def fnExactRecNextBallotUptoRow : OpenClaim := { program := "ytleilaipdhmgeaa", sum := "cd3d80a4adb1c8e9554cd9421e20f6afe7e87c2706e44a4a43cdc91d90ba9136", func := "loop.example/wharfdesk/laws.FnExactRecNextBallot", spec := "fnExactRecNextBallot", plainKeys := false, apart := false, narrowed := true }
def FnExactRecNextBallotUptoSaid : Prop := fnExactRecNextBallotUptoRow.holds Try.pinned (OpenSpec.upto fnExactRecNextBallotSpec)

/-- 'laws.FnExactRecMerge', WHERE WHAT IT READS IS OF BULK AT MOST 1048576: true; the input reads as it did. -/
def fnExactRecMergeUptoRow : OpenClaim := { program := "ytleilaipdhmgeaa", sum := "cd3d80a4adb1c8e9554cd9421e20f6afe7e87c2706e44a4a43cdc91d90ba9136", func := "loop.example/wharfdesk/laws.FnExactRecMerge", spec := "fnExactRecMerge", plainKeys := false, apart := false, narrowed := true }
def FnExactRecMergeUptoSaid : Prop := fnExactRecMergeUptoRow.holds Try.pinned (OpenSpec.upto fnExactRecMergeSpec)

/-- 'laws.FnExactRecDiskOk', WHERE WHAT IT READS IS OF BULK AT MOST 1048576: true; the input reads as it did. -/
def fnExactRecDiskOkUptoRow : OpenClaim := { program := "ytleilaipdhmgeaa", sum := "cd3d80a4adb1c8e9554cd9421e20f6afe7e87c2706e44a4a43cdc91d90ba9136", func := "loop.example/wharfdesk/laws.FnExactRecDiskOk", spec := "fnExactRecDiskOk", plainKeys := false, apart := false, narrowed := true }
def FnExactRecDiskOkUptoSaid : Prop := fnExactRecDiskOkUptoRow.holds Try.pinned (OpenSpec.upto fnExactRecDiskOkSpec)

/-- 'laws.FnExactRecMessageOk', WHERE WHAT IT READS IS OF BULK AT MOST 1048576: true; the input reads as it did. -/
def fnExactRecMessageOkUptoRow : OpenClaim := { program := "ytleilaipdhmgeaa", sum := "cd3d80a4adb1c8e9554cd9421e20f6afe7e87c2706e44a4a43cdc91d90ba9136", func := "loop.example/wharfdesk/laws.FnExactRecMessageOk", spec := "fnExactRecMessageOk", plainKeys := false, apart := false, narrowed := true }
def FnExactRecMessageOkUptoSaid : Prop := fnExactRecMessageOkUptoRow.holds Try.pinned (OpenSpec.upto fnExactRecMessageOkSpec)

/-- 'laws.FnExactRecNew', WHERE WHAT IT READS IS OF BULK AT MOST 1048576: true; the input reads as it did. -/
def fnExactRecNewUptoRow : OpenClaim := { program := "ytleilaipdhmgeaa", sum := "cd3d80a4adb1c8e9554cd9421e20f6afe7e87c2706e44a4a43cdc91d90ba9136", func := "loop.example/wharfdesk/laws.FnExactRecNew", spec := "fnExactRecNew", plainKeys := false, apart := false, narrowed := true }
def FnExactRecNewUptoSaid : Prop := fnExactRecNewUptoRow.holds Try.pinned (OpenSpec.upto fnExactRecNewSpec)

/-- 'laws.FnExactRecValid', WHERE WHAT IT READS IS OF BULK AT MOST 1048576: true; the input reads as it did. -/
def fnExactRecValidUptoRow : OpenClaim := { program := "ytleilaipdhmgeaa", sum := "cd3d80a4adb1c8e9554cd9421e20f6afe7e87c2706e44a4a43cdc91d90ba9136", func := "loop.example/wharfdesk/laws.FnExactRecValid", spec := "fnExactRecValid", plainKeys := false, apart := false, narrowed := true }
def FnExactRecValidUptoSaid : Prop := fnExactRecValidUptoRow.holds Try.pinned (OpenSpec.upto fnExactRecValidSpec)

/-- 'laws.FnExactRecNewWorld', WHERE WHAT IT READS IS OF BULK AT MOST 1048576: true; the input reads as it did. -/
def fnExactRecNewWorldUptoRow : OpenClaim := { program := "ytleilaipdhmgeaa", sum := "cd3d80a4adb1c8e9554cd9421e20f6afe7e87c2706e44a4a43cdc91d90ba9136", func := "loop.example/wharfdesk/laws.FnExactRecNewWorld", spec := "fnExactRecNewWorld", plainKeys := false, apart := false, narrowed := true }
def FnExactRecNewWorldUptoSaid : Prop := fnExactRecNewWorldUptoRow.holds Try.pinned (OpenSpec.upto fnExactRecNewWorldSpec)

/-- 'laws.FnExactRecBook', WHERE WHAT IT READS IS OF BULK AT MOST 1048576: true; the input reads as it did. -/
def fnExactRecBookUptoRow : OpenClaim := { program := "ytleilaipdhmgeaa", sum := "cd3d80a4adb1c8e9554cd9421e20f6afe7e87c2706e44a4a43cdc91d90ba9136", func := "loop.example/wharfdesk/laws.FnExactRecBook", spec := "fnExactRecBook", plainKeys := false, apart := false, narrowed := true }
def FnExactRecBookUptoSaid : Prop := fnExactRecBookUptoRow.holds Try.pinned (OpenSpec.upto fnExactRecBookSpec)

/-- 'laws.FnExactRecWorldOk', WHERE WHAT IT READS IS OF BULK AT MOST 1048576: true; the input reads as it did. -/
def fnExactRecWorldOkUptoRow : OpenClaim := { program := "ytleilaipdhmgeaa", sum := "cd3d80a4adb1c8e9554cd9421e20f6afe7e87c2706e44a4a43cdc91d90ba9136", func := "loop.example/wharfdesk/laws.FnExactRecWorldOk", spec := "fnExactRecWorldOk", plainKeys := false, apart := false, narrowed := true }
def FnExactRecWorldOkUptoSaid : Prop := fnExactRecWorldOkUptoRow.holds Try.pinned (OpenSpec.upto fnExactRecWorldOkSpec)

/-- 'laws.FnExactRecMajor', WHERE WHAT IT READS IS OF BULK AT MOST 1048576: true; the input reads as it did. -/
def fnExactRecMajorUptoRow : OpenClaim := { program := "ytleilaipdhmgeaa", sum := "cd3d80a4adb1c8e9554cd9421e20f6afe7e87c2706e44a4a43cdc91d90ba9136", func := "loop.example/wharfdesk/laws.FnExactRecMajor", spec := "fnExactRecMajor", plainKeys := false, apart := false, narrowed := true }
def FnExactRecMajorUptoSaid : Prop := fnExactRecMajorUptoRow.holds Try.pinned (OpenSpec.upto fnExactRecMajorSpec)

/-- 'laws.FnExactRecFall', WHERE WHAT IT READS IS OF BULK AT MOST 1048576: true; the input reads as it did. -/
def fnExactRecFallUptoRow : OpenClaim := { program := "ytleilaipdhmgeaa", sum := "cd3d80a4adb1c8e9554cd9421e20f6afe7e87c2706e44a4a43cdc91d90ba9136", func := "loop.example/wharfdesk/laws.FnExactRecFall", spec := "fnExactRecFall", plainKeys := false, apart := false, narrowed := true }
def FnExactRecFallUptoSaid : Prop := fnExactRecFallUptoRow.holds Try.pinned (OpenSpec.upto fnExactRecFallSpec)

/-- 'laws.FnExactRecAgree', WHERE WHAT IT READS IS OF BULK AT MOST 1048576: true; the input reads as it did. -/
def fnExactRecAgreeUptoRow : OpenClaim := { program := "ytleilaipdhmgeaa", sum := "cd3d80a4adb1c8e9554cd9421e20f6afe7e87c2706e44a4a43cdc91d90ba9136", func := "loop.example/wharfdesk/laws.FnExactRecAgree", spec := "fnExactRecAgree", plainKeys := false, apart := false, narrowed := true }
def FnExactRecAgreeUptoSaid : Prop := fnExactRecAgreeUptoRow.holds Try.pinned (OpenSpec.upto fnExactRecAgreeSpec)

/-- 'laws.FnExactRecRise', WHERE WHAT IT READS IS OF BULK AT MOST 1048576: true; the input reads as it did. -/
def fnExactRecRiseUptoRow : OpenClaim := { program := "ytleilaipdhmgeaa", sum := "cd3d80a4adb1c8e9554cd9421e20f6afe7e87c2706e44a4a43cdc91d90ba9136", func := "loop.example/wharfdesk/laws.FnExactRecRise", spec := "fnExactRecRise", plainKeys := false, apart := false, narrowed := true }
def FnExactRecRiseUptoSaid : Prop := fnExactRecRiseUptoRow.holds Try.pinned (OpenSpec.upto fnExactRecRiseSpec)

/-- 'laws.FnExactRecWish', WHERE WHAT IT READS IS OF BULK AT MOST 1048576: true; the input reads as it did. -/
def fnExactRecWishUptoRow : OpenClaim := { program := "ytleilaipdhmgeaa", sum := "cd3d80a4adb1c8e9554cd9421e20f6afe7e87c2706e44a4a43cdc91d90ba9136", func := "loop.example/wharfdesk/laws.FnExactRecWish", spec := "fnExactRecWish", plainKeys := false, apart := false, narrowed := true }
def FnExactRecWishUptoSaid : Prop := fnExactRecWishUptoRow.holds Try.pinned (OpenSpec.upto fnExactRecWishSpec)

/-- 'laws.FnRecMerge', WHERE WHAT IT READS IS OF BULK AT MOST 1048576: true; the input reads as it did. -/
def fnRecMergeUptoRow : OpenClaim := { program := "ytleilaipdhmgeaa", sum := "cd3d80a4adb1c8e9554cd9421e20f6afe7e87c2706e44a4a43cdc91d90ba9136", func := "loop.example/wharfdesk/laws.FnRecMerge", spec := "fnRecMerge", recurses := true, plainKeys := false, apart := false, narrowed := true }
def FnRecMergeUptoSaid : Prop := fnRecMergeUptoRow.holds Try.pinned (OpenSpec.upto fnRecMergeSpec)

/-- 'laws.FnRecFalls', WHERE WHAT IT READS IS OF BULK AT MOST 1048576: true; the input reads as it did. -/
def fnRecFallsUptoRow : OpenClaim := { program := "ytleilaipdhmgeaa", sum := "cd3d80a4adb1c8e9554cd9421e20f6afe7e87c2706e44a4a43cdc91d90ba9136", func := "loop.example/wharfdesk/laws.FnRecFalls", spec := "fnRecFalls", recurses := true, plainKeys := false, apart := false, narrowed := true }
def FnRecFallsUptoSaid : Prop := fnRecFallsUptoRow.holds Try.pinned (OpenSpec.upto fnRecFallsSpec)

end Rows
end Go.Proofs.Ytleilaipdhmgeaa
