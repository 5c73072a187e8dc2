/-
  No cell of these rows narrows 'for every input' (looked for: loops, veiled, ifaces, maps, wideKeys, modest, calm, conditions, laid).
  DERIVED. THE GIVEN ROWS OF THIS SEAT. 4 by the template 'for every input the law returns true; each argument reads behind the call as it read before'; 0 by the template 'total and deterministic' (their statements: YtbbhhndbhioacaaTotals.lean).
  GIVEN WITH THE SEED: the statements are not yours to turn. If you find one false, say at which input.
  Laid BY PROGRAM, IN A SANDBOX (cutbox-rows.mjs): the forced cells as the released guide's own fill.sh prints them over the translation c716dfb87b51ea28… (all of the seat's roots in one cut). By AI agents, Wed Nov 11 2026. No macro, syntax, notation, axiom, sorry.
-/
import Derived.Test.YtbbhhndbhioacaaChecked
import GoSem.Claim
import GoSem.ClaimJoined
import GoSem.ClaimMapViews
import Derived.JoinedTies
import Derived.KernelRfl
namespace Go.Proofs.Ytbbhhndbhioacaa
/- THE CELL 'sum', in the pinned program and in every row, IS THE sha256 OF THE DUMP (.gsa) THAT YtbbhhndbhioacaaProg.lean LOADS. Nothing in Lean hashes anything: it is a label: what it is worth is what the hold of that sum in a sandbox is worth. -/
noncomputable def Try.pinned : Pinned := { name := "ytbbhhndbhioacaa", sum := "c716dfb87b51ea28d5323c0bb46c0f453e877e9c7669ae701f7457f3026b1f86", checked := Try.checked }
namespace Rows
def none {H : Type} : Left H := { results := [], args := [] }

/-- 'laws.FnExactConstants': WHATEVER THE INPUT: true; the input reads as it did. -/
def fnExactConstantsSpec : ChangeSpec := { name := "fnExactConstants", fn := fun _ => fun
  | [] => { results := [.lit (.bool true)], args := [] }
  | _ => none }
def fnExactConstantsRow : OpenClaim := { program := "ytbbhhndbhioacaa", sum := "c716dfb87b51ea28d5323c0bb46c0f453e877e9c7669ae701f7457f3026b1f86", func := "loop.example/wharfdesk/laws.FnExactConstants", spec := "fnExactConstants", apart := false }
def FnExactConstantsSaid : Prop := fnExactConstantsRow.holds Try.pinned (OpenSpec.ofChange fnExactConstantsSpec)

/-- ITS FALSE NEIGHBOUR: 'it returns false'. Refute it at one input. -/
def fnExactConstantsWrong : ChangeSpec := { name := "fnExactConstants", fn := fun _ => fun
  | [] => { results := [.lit (.bool false)], args := [] }
  | _ => none }
def FnExactConstantsWrongFalsely : Prop := fnExactConstantsRow.holds Try.pinned (OpenSpec.ofChange fnExactConstantsWrong)

/-- 'laws.FnExactDeskOk': WHATEVER THE INPUT: true; the input reads as it did. -/
def fnExactDeskOkSpec : ChangeSpec := { name := "fnExactDeskOk", fn := fun _ => fun
  | [d] => { results := [.lit (.bool true)], args := [d] }
  | _ => none }
def fnExactDeskOkRow : OpenClaim := { program := "ytbbhhndbhioacaa", sum := "c716dfb87b51ea28d5323c0bb46c0f453e877e9c7669ae701f7457f3026b1f86", func := "loop.example/wharfdesk/laws.FnExactDeskOk", spec := "fnExactDeskOk", apart := false }
def FnExactDeskOkSaid : Prop := fnExactDeskOkRow.holds Try.pinned (OpenSpec.ofChange fnExactDeskOkSpec)

/-- ITS FALSE NEIGHBOUR: 'it returns false'. Refute it at one input. -/
def fnExactDeskOkWrong : ChangeSpec := { name := "fnExactDeskOk", fn := fun _ => fun
  | [d] => { results := [.lit (.bool false)], args := [d] }
  | _ => none }
def FnExactDeskOkWrongFalsely : Prop := fnExactDeskOkRow.holds Try.pinned (OpenSpec.ofChange fnExactDeskOkWrong)

/-- 'laws.FnExactDeskApart': WHATEVER THE INPUT: true; the input reads as it did. -/
def fnExactDeskApartSpec : ChangeSpec := { name := "fnExactDeskApart", fn := fun _ => fun
  | [d] => { results := [.lit (.bool true)], args := [d] }
  | _ => none }
def fnExactDeskApartRow : OpenClaim := { program := "ytbbhhndbhioacaa", sum := "c716dfb87b51ea28d5323c0bb46c0f453e877e9c7669ae701f7457f3026b1f86", func := "loop.example/wharfdesk/laws.FnExactDeskApart", spec := "fnExactDeskApart", apart := false }
def FnExactDeskApartSaid : Prop := fnExactDeskApartRow.holds Try.pinned (OpenSpec.ofChange fnExactDeskApartSpec)

/-- ITS FALSE NEIGHBOUR: 'it returns false'. Refute it at one input. -/
def fnExactDeskApartWrong : ChangeSpec := { name := "fnExactDeskApart", fn := fun _ => fun
  | [d] => { results := [.lit (.bool false)], args := [d] }
  | _ => none }
def FnExactDeskApartWrongFalsely : Prop := fnExactDeskApartRow.holds Try.pinned (OpenSpec.ofChange fnExactDeskApartWrong)

/-- 'laws.FnExactHallHouseOk': WHATEVER THE INPUT: true; the input reads as it did. -/
def fnExactHallHouseOkSpec : ChangeSpec := { name := "fnExactHallHouseOk", fn := fun _ => fun
  | [d] => { results := [.lit (.bool true)], args := [d] }
  | _ => none }
def fnExactHallHouseOkRow : OpenClaim := { program := "ytbbhhndbhioacaa", sum := "c716dfb87b51ea28d5323c0bb46c0f453e877e9c7669ae701f7457f3026b1f86", func := "loop.example/wharfdesk/laws.FnExactHallHouseOk", spec := "fnExactHallHouseOk", apart := false }
def FnExactHallHouseOkSaid : Prop := fnExactHallHouseOkRow.holds Try.pinned (OpenSpec.ofChange fnExactHallHouseOkSpec)

/-- ITS FALSE NEIGHBOUR: 'it returns false'. Refute it at one input. -/
def fnExactHallHouseOkWrong : ChangeSpec := { name := "fnExactHallHouseOk", fn := fun _ => fun
  | [d] => { results := [.lit (.bool false)], args := [d] }
  | _ => none }
def FnExactHallHouseOkWrongFalsely : Prop := fnExactHallHouseOkRow.holds Try.pinned (OpenSpec.ofChange fnExactHallHouseOkWrong)

/- THE SECOND FORM. 'bulk': how many values and letters a reading holds, each counted each time it is reached (what is shared counts as often as it is met; a slice's spare places count too). A statement '..UptoSaid' is the law's where the arguments, and the package variables that the reading takes, are together of bulk at most 1048576: NARROWER than '..Said'. Prove '..Said' where nothing that the law and all that it calls make is longer than what came in: it says more and counts as full. Else prove '..UptoSaid'. A law counts once. -/
mutual
def uptoBulk {H : Type} : DataW H → Nat
  | .lit (.string bytes) => bytes.length + 1
  | .lit _ => 1
  | .nil => 1
  | .ptr d => uptoBulk d + 1
  | .slice elems spare => uptoBulkAll elems + uptoBulkAll spare + 1
  | .agg parts => uptoBulkAll parts + 1
  | .iface _ d => uptoBulk d + 1
  | .map entries => uptoBulkEntries entries + 1
  | .held _ => 1
def uptoBulkAll {H : Type} : List (DataW H) → Nat
  | [] => 0
  | d :: r => uptoBulk d + uptoBulkAll r
def uptoBulkEntries {H : Type} : List (Lit × DataW H) → Nat
  | [] => 0
  | x :: r => uptoBulkEntry x + uptoBulkEntries r
def uptoBulkEntry {H : Type} : Lit × DataW H → Nat
  | (.string bytes, d) => bytes.length + uptoBulk d + 1
  | (_, d) => uptoBulk d + 1
 end
def uptoSmall : (H : Type) → List (DataW H) → Bool := fun _ ds => decide (uptoBulkAll ds ≤ 1048576)
def OpenSpec.upto (s : _root_.Go.ChangeSpec) : _root_.Go.OpenSpec := { _root_.Go.OpenSpec.ofChange s with cond := some uptoSmall }

/-- 'laws.FnExactConstants', WHERE WHAT IT READS IS OF BULK AT MOST 1048576: true; the input reads as it did. -/
def fnExactConstantsUptoRow : OpenClaim := { program := "ytbbhhndbhioacaa", sum := "c716dfb87b51ea28d5323c0bb46c0f453e877e9c7669ae701f7457f3026b1f86", func := "loop.example/wharfdesk/laws.FnExactConstants", spec := "fnExactConstants", apart := false, narrowed := true }
def FnExactConstantsUptoSaid : Prop := fnExactConstantsUptoRow.holds Try.pinned (OpenSpec.upto fnExactConstantsSpec)

/-- 'laws.FnExactDeskOk', WHERE WHAT IT READS IS OF BULK AT MOST 1048576: true; the input reads as it did. -/
def fnExactDeskOkUptoRow : OpenClaim := { program := "ytbbhhndbhioacaa", sum := "c716dfb87b51ea28d5323c0bb46c0f453e877e9c7669ae701f7457f3026b1f86", func := "loop.example/wharfdesk/laws.FnExactDeskOk", spec := "fnExactDeskOk", apart := false, narrowed := true }
def FnExactDeskOkUptoSaid : Prop := fnExactDeskOkUptoRow.holds Try.pinned (OpenSpec.upto fnExactDeskOkSpec)

/-- 'laws.FnExactDeskApart', WHERE WHAT IT READS IS OF BULK AT MOST 1048576: true; the input reads as it did. -/
def fnExactDeskApartUptoRow : OpenClaim := { program := "ytbbhhndbhioacaa", sum := "c716dfb87b51ea28d5323c0bb46c0f453e877e9c7669ae701f7457f3026b1f86", func := "loop.example/wharfdesk/laws.FnExactDeskApart", spec := "fnExactDeskApart", apart := false, narrowed := true }
def FnExactDeskApartUptoSaid : Prop := fnExactDeskApartUptoRow.holds Try.pinned (OpenSpec.upto fnExactDeskApartSpec)

/-- 'laws.FnExactHallHouseOk', WHERE WHAT IT READS IS OF BULK AT MOST 1048576: true; the input reads as it did. -/
def fnExactHallHouseOkUptoRow : OpenClaim := { program := "ytbbhhndbhioacaa", sum := "c716dfb87b51ea28d5323c0bb46c0f453e877e9c7669ae701f7457f3026b1f86", func := "loop.example/wharfdesk/laws.FnExactHallHouseOk", spec := "fnExactHallHouseOk", apart := false, narrowed := true }
def FnExactHallHouseOkUptoSaid : Prop := fnExactHallHouseOkUptoRow.holds Try.pinned (OpenSpec.upto fnExactHallHouseOkSpec)

end Rows
end Go.Proofs.Ytbbhhndbhioacaa
