/-
  No cell of these rows narrows 'for every input' (looked for: loops, veiled, ifaces, maps, wideKeys, modest, calm, conditions, laid).
  DERIVED. THE GIVEN ROWS OF THIS SEAT. 10 by the template 'for every input the law returns true; each argument reads behind the call as it read before'; 0 by the template 'total and deterministic' (their statements: YtgdmgoidfglobaaTotals.lean).
  GIVEN WITH THE SEED: the statements are not yours to turn. If you find one false, say at which input.
  Laid BY PROGRAM, IN A SANDBOX (cutbox-rows.mjs): the forced cells as the released guide's own fill.sh prints them over the translation 8a0ae708d2d194a6… (all of the seat's roots in one cut). By AI agents, Wed Nov 11 2026. No macro, syntax, notation, axiom, sorry.
-/
import Derived.Test.YtgdmgoidfglobaaChecked
import GoSem.Claim
import GoSem.ClaimJoined
import GoSem.ClaimMapViews
import Derived.JoinedTies
import Derived.KernelRfl
namespace Go.Proofs.Ytgdmgoidfglobaa
/- THE CELL 'sum', in the pinned program and in every row, IS THE sha256 OF THE DUMP (.gsa) THAT YtgdmgoidfglobaaProg.lean LOADS. Nothing in Lean hashes anything: it is a label: what it is worth is what the hold of that sum in a sandbox is worth. -/
noncomputable def Try.pinned : Pinned := { name := "ytgdmgoidfglobaa", sum := "8a0ae708d2d194a619c9c0180732141d9cb817fcadbcc02732c13c17b0543548", checked := Try.checked }
namespace Rows
def none {H : Type} : Left H := { results := [], args := [] }

/-- 'laws.FnExactGateUnder': WHATEVER THE INPUT: true; the input reads as it did. -/
def fnExactGateUnderSpec : ChangeSpec := { name := "fnExactGateUnder", fn := fun _ => fun
  | [d1, d2, d3] => { results := [.lit (.bool true)], args := [d1, d2, d3] }
  | _ => none }
def fnExactGateUnderRow : OpenClaim := { program := "ytgdmgoidfglobaa", sum := "8a0ae708d2d194a619c9c0180732141d9cb817fcadbcc02732c13c17b0543548", func := "loop.example/wharfdesk/laws.FnExactGateUnder", spec := "fnExactGateUnder", apart := false }
def FnExactGateUnderSaid : Prop := fnExactGateUnderRow.holds Try.pinned (OpenSpec.ofChange fnExactGateUnderSpec)

/-- ITS FALSE NEIGHBOUR: 'it returns false'. Refute it at one input. -/
def fnExactGateUnderWrong : ChangeSpec := { name := "fnExactGateUnder", fn := fun _ => fun
  | [d1, d2, d3] => { results := [.lit (.bool false)], args := [d1, d2, d3] }
  | _ => none }
def FnExactGateUnderWrongFalsely : Prop := fnExactGateUnderRow.holds Try.pinned (OpenSpec.ofChange fnExactGateUnderWrong)

/-- 'laws.FnExactGateTeamsOk': WHATEVER THE INPUT: true; the input reads as it did. -/
def fnExactGateTeamsOkSpec : ChangeSpec := { name := "fnExactGateTeamsOk", fn := fun _ => fun
  | [d] => { results := [.lit (.bool true)], args := [d] }
  | _ => none }
def fnExactGateTeamsOkRow : OpenClaim := { program := "ytgdmgoidfglobaa", sum := "8a0ae708d2d194a619c9c0180732141d9cb817fcadbcc02732c13c17b0543548", func := "loop.example/wharfdesk/laws.FnExactGateTeamsOk", spec := "fnExactGateTeamsOk", apart := false }
def FnExactGateTeamsOkSaid : Prop := fnExactGateTeamsOkRow.holds Try.pinned (OpenSpec.ofChange fnExactGateTeamsOkSpec)

/-- ITS FALSE NEIGHBOUR: 'it returns false'. Refute it at one input. -/
def fnExactGateTeamsOkWrong : ChangeSpec := { name := "fnExactGateTeamsOk", fn := fun _ => fun
  | [d] => { results := [.lit (.bool false)], args := [d] }
  | _ => none }
def FnExactGateTeamsOkWrongFalsely : Prop := fnExactGateTeamsOkRow.holds Try.pinned (OpenSpec.ofChange fnExactGateTeamsOkWrong)

/-- 'laws.FnExactGateUsed': WHATEVER THE INPUT: true; the input reads as it did. -/
def fnExactGateUsedSpec : ChangeSpec := { name := "fnExactGateUsed", fn := fun _ => fun
  | [d1, d2, d3, d4] => { results := [.lit (.bool true)], args := [d1, d2, d3, d4] }
  | _ => none }
def fnExactGateUsedRow : OpenClaim := { program := "ytgdmgoidfglobaa", sum := "8a0ae708d2d194a619c9c0180732141d9cb817fcadbcc02732c13c17b0543548", func := "loop.example/wharfdesk/laws.FnExactGateUsed", spec := "fnExactGateUsed", apart := false }
def FnExactGateUsedSaid : Prop := fnExactGateUsedRow.holds Try.pinned (OpenSpec.ofChange fnExactGateUsedSpec)

/-- ITS FALSE NEIGHBOUR: 'it returns false'. Refute it at one input. -/
def fnExactGateUsedWrong : ChangeSpec := { name := "fnExactGateUsed", fn := fun _ => fun
  | [d1, d2, d3, d4] => { results := [.lit (.bool false)], args := [d1, d2, d3, d4] }
  | _ => none }
def FnExactGateUsedWrongFalsely : Prop := fnExactGateUsedRow.holds Try.pinned (OpenSpec.ofChange fnExactGateUsedWrong)

/-- 'laws.FnExactGateFits': WHATEVER THE INPUT: true; the input reads as it did. -/
def fnExactGateFitsSpec : ChangeSpec := { name := "fnExactGateFits", fn := fun _ => fun
  | [d1, d2] => { results := [.lit (.bool true)], args := [d1, d2] }
  | _ => none }
def fnExactGateFitsRow : OpenClaim := { program := "ytgdmgoidfglobaa", sum := "8a0ae708d2d194a619c9c0180732141d9cb817fcadbcc02732c13c17b0543548", func := "loop.example/wharfdesk/laws.FnExactGateFits", spec := "fnExactGateFits", unfollowed := true, recurses := true, apart := false }
def FnExactGateFitsSaid : Prop := fnExactGateFitsRow.holds Try.pinned (OpenSpec.ofChange fnExactGateFitsSpec)

/-- ITS FALSE NEIGHBOUR: 'it returns false'. Refute it at one input. -/
def fnExactGateFitsWrong : ChangeSpec := { name := "fnExactGateFits", fn := fun _ => fun
  | [d1, d2] => { results := [.lit (.bool false)], args := [d1, d2] }
  | _ => none }
def FnExactGateFitsWrongFalsely : Prop := fnExactGateFitsRow.holds Try.pinned (OpenSpec.ofChange fnExactGateFitsWrong)

/-- 'laws.FnExactGateAllows': WHATEVER THE INPUT: true; the input reads as it did. -/
def fnExactGateAllowsSpec : ChangeSpec := { name := "fnExactGateAllows", fn := fun _ => fun
  | [d1, d2, d3] => { results := [.lit (.bool true)], args := [d1, d2, d3] }
  | _ => none }
def fnExactGateAllowsRow : OpenClaim := { program := "ytgdmgoidfglobaa", sum := "8a0ae708d2d194a619c9c0180732141d9cb817fcadbcc02732c13c17b0543548", func := "loop.example/wharfdesk/laws.FnExactGateAllows", spec := "fnExactGateAllows", unfollowed := true, recurses := true, apart := false }
def FnExactGateAllowsSaid : Prop := fnExactGateAllowsRow.holds Try.pinned (OpenSpec.ofChange fnExactGateAllowsSpec)

/-- ITS FALSE NEIGHBOUR: 'it returns false'. Refute it at one input. -/
def fnExactGateAllowsWrong : ChangeSpec := { name := "fnExactGateAllows", fn := fun _ => fun
  | [d1, d2, d3] => { results := [.lit (.bool false)], args := [d1, d2, d3] }
  | _ => none }
def FnExactGateAllowsWrongFalsely : Prop := fnExactGateAllowsRow.holds Try.pinned (OpenSpec.ofChange fnExactGateAllowsWrong)

/-- 'laws.FnExactGateCovers': WHATEVER THE INPUT: true; the input reads as it did. -/
def fnExactGateCoversSpec : ChangeSpec := { name := "fnExactGateCovers", fn := fun _ => fun
  | [d1, d2, d3] => { results := [.lit (.bool true)], args := [d1, d2, d3] }
  | _ => none }
def fnExactGateCoversRow : OpenClaim := { program := "ytgdmgoidfglobaa", sum := "8a0ae708d2d194a619c9c0180732141d9cb817fcadbcc02732c13c17b0543548", func := "loop.example/wharfdesk/laws.FnExactGateCovers", spec := "fnExactGateCovers", apart := false }
def FnExactGateCoversSaid : Prop := fnExactGateCoversRow.holds Try.pinned (OpenSpec.ofChange fnExactGateCoversSpec)

/-- ITS FALSE NEIGHBOUR: 'it returns false'. Refute it at one input. -/
def fnExactGateCoversWrong : ChangeSpec := { name := "fnExactGateCovers", fn := fun _ => fun
  | [d1, d2, d3] => { results := [.lit (.bool false)], args := [d1, d2, d3] }
  | _ => none }
def FnExactGateCoversWrongFalsely : Prop := fnExactGateCoversRow.holds Try.pinned (OpenSpec.ofChange fnExactGateCoversWrong)

/-- 'laws.FnExactGateWeighs': WHATEVER THE INPUT: true; the input reads as it did. -/
def fnExactGateWeighsSpec : ChangeSpec := { name := "fnExactGateWeighs", fn := fun _ => fun
  | [d1, d2, d3] => { results := [.lit (.bool true)], args := [d1, d2, d3] }
  | _ => none }
def fnExactGateWeighsRow : OpenClaim := { program := "ytgdmgoidfglobaa", sum := "8a0ae708d2d194a619c9c0180732141d9cb817fcadbcc02732c13c17b0543548", func := "loop.example/wharfdesk/laws.FnExactGateWeighs", spec := "fnExactGateWeighs", apart := false }
def FnExactGateWeighsSaid : Prop := fnExactGateWeighsRow.holds Try.pinned (OpenSpec.ofChange fnExactGateWeighsSpec)

/-- ITS FALSE NEIGHBOUR: 'it returns false'. Refute it at one input. -/
def fnExactGateWeighsWrong : ChangeSpec := { name := "fnExactGateWeighs", fn := fun _ => fun
  | [d1, d2, d3] => { results := [.lit (.bool false)], args := [d1, d2, d3] }
  | _ => none }
def FnExactGateWeighsWrongFalsely : Prop := fnExactGateWeighsRow.holds Try.pinned (OpenSpec.ofChange fnExactGateWeighsWrong)

/-- 'laws.FnExactGateShapesOk': WHATEVER THE INPUT: true; the input reads as it did. -/
def fnExactGateShapesOkSpec : ChangeSpec := { name := "fnExactGateShapesOk", fn := fun _ => fun
  | [d] => { results := [.lit (.bool true)], args := [d] }
  | _ => none }
def fnExactGateShapesOkRow : OpenClaim := { program := "ytgdmgoidfglobaa", sum := "8a0ae708d2d194a619c9c0180732141d9cb817fcadbcc02732c13c17b0543548", func := "loop.example/wharfdesk/laws.FnExactGateShapesOk", spec := "fnExactGateShapesOk", unfollowed := true, recurses := true, apart := false }
def FnExactGateShapesOkSaid : Prop := fnExactGateShapesOkRow.holds Try.pinned (OpenSpec.ofChange fnExactGateShapesOkSpec)

/-- ITS FALSE NEIGHBOUR: 'it returns false'. Refute it at one input. -/
def fnExactGateShapesOkWrong : ChangeSpec := { name := "fnExactGateShapesOk", fn := fun _ => fun
  | [d] => { results := [.lit (.bool false)], args := [d] }
  | _ => none }
def FnExactGateShapesOkWrongFalsely : Prop := fnExactGateShapesOkRow.holds Try.pinned (OpenSpec.ofChange fnExactGateShapesOkWrong)

/-- 'laws.FnExactGateFill': WHATEVER THE INPUT: true; the input reads as it did. -/
def fnExactGateFillSpec : ChangeSpec := { name := "fnExactGateFill", fn := fun _ => fun
  | [d1, d2] => { results := [.lit (.bool true)], args := [d1, d2] }
  | _ => none }
def fnExactGateFillRow : OpenClaim := { program := "ytgdmgoidfglobaa", sum := "8a0ae708d2d194a619c9c0180732141d9cb817fcadbcc02732c13c17b0543548", func := "loop.example/wharfdesk/laws.FnExactGateFill", spec := "fnExactGateFill", unfollowed := true, recurses := true, apart := false }
def FnExactGateFillSaid : Prop := fnExactGateFillRow.holds Try.pinned (OpenSpec.ofChange fnExactGateFillSpec)

/-- ITS FALSE NEIGHBOUR: 'it returns false'. Refute it at one input. -/
def fnExactGateFillWrong : ChangeSpec := { name := "fnExactGateFill", fn := fun _ => fun
  | [d1, d2] => { results := [.lit (.bool false)], args := [d1, d2] }
  | _ => none }
def FnExactGateFillWrongFalsely : Prop := fnExactGateFillRow.holds Try.pinned (OpenSpec.ofChange fnExactGateFillWrong)

/-- 'laws.FnExactGateMendsOk': WHATEVER THE INPUT: true; the input reads as it did. -/
def fnExactGateMendsOkSpec : ChangeSpec := { name := "fnExactGateMendsOk", fn := fun _ => fun
  | [d1, d2] => { results := [.lit (.bool true)], args := [d1, d2] }
  | _ => none }
def fnExactGateMendsOkRow : OpenClaim := { program := "ytgdmgoidfglobaa", sum := "8a0ae708d2d194a619c9c0180732141d9cb817fcadbcc02732c13c17b0543548", func := "loop.example/wharfdesk/laws.FnExactGateMendsOk", spec := "fnExactGateMendsOk", unfollowed := true, recurses := true, apart := false }
def FnExactGateMendsOkSaid : Prop := fnExactGateMendsOkRow.holds Try.pinned (OpenSpec.ofChange fnExactGateMendsOkSpec)

/-- ITS FALSE NEIGHBOUR: 'it returns false'. Refute it at one input. -/
def fnExactGateMendsOkWrong : ChangeSpec := { name := "fnExactGateMendsOk", fn := fun _ => fun
  | [d1, d2] => { results := [.lit (.bool false)], args := [d1, d2] }
  | _ => none }
def FnExactGateMendsOkWrongFalsely : Prop := fnExactGateMendsOkRow.holds Try.pinned (OpenSpec.ofChange fnExactGateMendsOkWrong)

/- THE SECOND FORM. 'bulk': how many values and letters a reading holds, each counted each time it is reached (what is shared counts as often as it is met; a slice's spare places count too). A statement '..UptoSaid' is the law's where the arguments, and the package variables that the reading takes, are together of bulk at most 1048576: NARROWER than '..Said'. Prove '..Said' where nothing that the law and all that it calls make is longer than what came in: it says more and counts as full. Else prove '..UptoSaid'. A law counts once. -/
mutual
def uptoBulk {H : Type} : DataW H → Nat
  | .lit (.string bytes) => bytes.length + 1
  | .lit _ => 1
  | .nil => 1
  | .ptr d => uptoBulk d + 1
  | .slice elems spare => uptoBulkAll elems + uptoBulkAll spare + 1
  | .agg parts => uptoBulkAll parts + 1
  | .iface _ d => uptoBulk d + 1
  | .map entries => uptoBulkEntries entries + 1
  | .held _ => 1
def uptoBulkAll {H : Type} : List (DataW H) → Nat
  | [] => 0
  | d :: r => uptoBulk d + uptoBulkAll r
def uptoBulkEntries {H : Type} : List (Lit × DataW H) → Nat
  | [] => 0
  | x :: r => uptoBulkEntry x + uptoBulkEntries r
def uptoBulkEntry {H : Type} : Lit × DataW H → Nat
  | (.string bytes, d) => bytes.length + uptoBulk d + 1
  | (_, d) => uptoBulk d + 1
 end
def uptoSmall : (H : Type) → List (DataW H) → Bool := fun _ ds => decide (uptoBulkAll ds ≤ 1048576)
def OpenSpec.upto (s : _root_.Go.ChangeSpec) : _root_.Go.OpenSpec := { _root_.Go.OpenSpec.ofChange s with cond := some uptoSmall }

/-- 'laws.FnExactGateUnder', WHERE WHAT IT READS IS OF BULK AT MOST 1048576: true; the input reads as it did. -/
def fnExactGateUnderUptoRow : OpenClaim := { program := "ytgdmgoidfglobaa", sum := "8a0ae708d2d194a619c9c0180732141d9cb817fcadbcc02732c13c17b0543548", func := "loop.example/wharfdesk/laws.FnExactGateUnder", spec := "fnExactGateUnder", apart := false, narrowed := true }
def FnExactGateUnderUptoSaid : Prop := fnExactGateUnderUptoRow.holds Try.pinned (OpenSpec.upto fnExactGateUnderSpec)

/-- 'laws.FnExactGateTeamsOk', WHERE WHAT IT READS IS OF BULK AT MOST 1048576: true; the input reads as it did. -/
def fnExactGateTeamsOkUptoRow : OpenClaim := { program := "ytgdmgoidfglobaa", sum := "8a0ae708d2d194a619c9c0180732141d9cb817fcadbcc02732c13c17b0543548", func := "loop.example/wharfdesk/laws.FnExactGateTeamsOk", spec := "fnExactGateTeamsOk", apart := false, narrowed := true }
def FnExactGateTeamsOkUptoSaid : Prop := fnExactGateTeamsOkUptoRow.holds Try.pinned (OpenSpec.upto fnExactGateTeamsOkSpec)

/-- 'laws.FnExactGateUsed', WHERE WHAT IT READS IS OF BULK AT MOST 1048576: true; the input reads as it did. -/
def fnExactGateUsedUptoRow : OpenClaim := { program := "ytgdmgoidfglobaa", sum := "8a0ae708d2d194a619c9c0180732141d9cb817fcadbcc02732c13c17b0543548", func := "loop.example/wharfdesk/laws.FnExactGateUsed", spec := "fnExactGateUsed", apart := false, narrowed := true }
def FnExactGateUsedUptoSaid : Prop := fnExactGateUsedUptoRow.holds Try.pinned (OpenSpec.upto fnExactGateUsedSpec)

/-- 'laws.FnExactGateFits', WHERE WHAT IT READS IS OF BULK AT MOST 1048576: true; the input reads as it did. -/
def fnExactGateFitsUptoRow : OpenClaim := { program := "ytgdmgoidfglobaa", sum := "8a0ae708d2d194a619c9c0180732141d9cb817fcadbcc02732c13c17b0543548", func := "loop.example/wharfdesk/laws.FnExactGateFits", spec := "fnExactGateFits", unfollowed := true, recurses := true, apart := false, narrowed := true }
def FnExactGateFitsUptoSaid : Prop := fnExactGateFitsUptoRow.holds Try.pinned (OpenSpec.upto fnExactGateFitsSpec)

/-- 'laws.FnExactGateAllows', WHERE WHAT IT READS IS OF BULK AT MOST 1048576: true; the input reads as it did. -/
def fnExactGateAllowsUptoRow : OpenClaim := { program := "ytgdmgoidfglobaa", sum := "8a0ae708d2d194a619c9c0180732141d9cb817fcadbcc02732c13c17b0543548", func := "loop.example/wharfdesk/laws.FnExactGateAllows", spec := "fnExactGateAllows", unfollowed := true, recurses := true, apart := false, narrowed := true }
def FnExactGateAllowsUptoSaid : Prop := fnExactGateAllowsUptoRow.holds Try.pinned (OpenSpec.upto fnExactGateAllowsSpec)

/-- 'laws.FnExactGateCovers', WHERE WHAT IT READS IS OF BULK AT MOST 1048576: true; the input reads as it did. -/
def fnExactGateCoversUptoRow : OpenClaim := { program := "ytgdmgoidfglobaa", sum := "8a0ae708d2d194a619c9c0180732141d9cb817fcadbcc02732c13c17b0543548", func := "loop.example/wharfdesk/laws.FnExactGateCovers", spec := "fnExactGateCovers", apart := false, narrowed := true }
def FnExactGateCoversUptoSaid : Prop := fnExactGateCoversUptoRow.holds Try.pinned (OpenSpec.upto fnExactGateCoversSpec)

/-- 'laws.FnExactGateWeighs', WHERE WHAT IT READS IS OF BULK AT MOST 1048576: true; the input reads as it did. -/
def fnExactGateWeighsUptoRow : OpenClaim := { program := "ytgdmgoidfglobaa", sum := "8a0ae708d2d194a619c9c0180732141d9cb817fcadbcc02732c13c17b0543548", func := "loop.example/wharfdesk/laws.FnExactGateWeighs", spec := "fnExactGateWeighs", apart := false, narrowed := true }
def FnExactGateWeighsUptoSaid : Prop := fnExactGateWeighsUptoRow.holds Try.pinned (OpenSpec.upto fnExactGateWeighsSpec)

/-- 'laws.FnExactGateShapesOk', WHERE WHAT IT READS IS OF BULK AT MOST 1048576: true; the input reads as it did. -/
def fnExactGateShapesOkUptoRow : OpenClaim := { program := "ytgdmgoidfglobaa", sum := "8a0ae708d2d194a619c9c0180732141d9cb817fcadbcc02732c13c17b0543548", func := "loop.example/wharfdesk/laws.FnExactGateShapesOk", spec := "fnExactGateShapesOk", unfollowed := true, recurses := true, apart := false, narrowed := true }
def FnExactGateShapesOkUptoSaid : Prop := fnExactGateShapesOkUptoRow.holds Try.pinned (OpenSpec.upto fnExactGateShapesOkSpec)

/-- 'laws.FnExactGateFill', WHERE WHAT IT READS IS OF BULK AT MOST 1048576: true; the input reads as it did. -/
def fnExactGateFillUptoRow : OpenClaim := { program := "ytgdmgoidfglobaa", sum := "8a0ae708d2d194a619c9c0180732141d9cb817fcadbcc02732c13c17b0543548", func := "loop.example/wharfdesk/laws.FnExactGateFill", spec := "fnExactGateFill", unfollowed := true, recurses := true, apart := false, narrowed := true }
def FnExactGateFillUptoSaid : Prop := fnExactGateFillUptoRow.holds Try.pinned (OpenSpec.upto fnExactGateFillSpec)

/-- 'laws.FnExactGateMendsOk', WHERE WHAT IT READS IS OF BULK AT MOST 1048576: true; the input reads as it did. -/
def fnExactGateMendsOkUptoRow : OpenClaim := { program := "ytgdmgoidfglobaa", sum := "8a0ae708d2d194a619c9c0180732141d9cb817fcadbcc02732c13c17b0543548", func := "loop.example/wharfdesk/laws.FnExactGateMendsOk", spec := "fnExactGateMendsOk", unfollowed := true, recurses := true, apart := false, narrowed := true }
def FnExactGateMendsOkUptoSaid : Prop := fnExactGateMendsOkUptoRow.holds Try.pinned (OpenSpec.upto fnExactGateMendsOkSpec)

end Rows
end Go.Proofs.Ytgdmgoidfglobaa
