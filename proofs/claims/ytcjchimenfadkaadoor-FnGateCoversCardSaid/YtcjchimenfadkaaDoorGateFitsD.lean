/- Which values fit a field. Conditions: none. -/
import Derived.Test.YtcjchimenfadkaaDoorGateNum
set_option linter.unusedSimpArgs false
set_option linter.unusedVariables false
set_option linter.defProp false
open Go Go.Ab
set_option maxHeartbeats 2000000
namespace Go.Proofs.YtcjchimenfadkaaDoor.W
def neT (v x : List UInt8) : Bool := !(x == v)
def hasW (l : List (List UInt8)) (v : List UInt8) : Bool := !(l.all (neT v))
theorem kinds (f : GateField) : f.Kind = 1 ∨ f.Kind = 2 ∨ f.Kind = 3 ∨ f.Kind = 4 ∨ ((f.Kind == 1) = false ∧ (f.Kind == 2) = false ∧ (f.Kind == 3) = false ∧ (f.Kind == 4) = false) := by
  by_cases h1 : f.Kind = 1
  · exact .inl h1
  by_cases h2 : f.Kind = 2
  · exact .inr (.inl h2)
  by_cases h3 : f.Kind = 3
  · exact .inr (.inr (.inl h3))
  by_cases h4 : f.Kind = 4
  · exact .inr (.inr (.inr (.inl h4)))
  · refine .inr (.inr (.inr (.inr ?_)))
    simp [h1, h2, h3, h4]

end Go.Proofs.YtcjchimenfadkaaDoor.W
