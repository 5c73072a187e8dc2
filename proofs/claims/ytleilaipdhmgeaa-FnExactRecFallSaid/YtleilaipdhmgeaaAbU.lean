/- A cut's head, told from its words, so that no kernel walks the text twice. Conditions: none (a library of lemmas). -/
import Derived.JoinedOf
set_option linter.unusedSimpArgs false
set_option linter.unusedVariables false
set_option linter.defProp false
namespace Go.Ab
variable {P : Program} {l : List Char}
theorem head_of (h : P.initOrder.toList = l) (hw : behindMainWord (wordsSigns l) = "cut".toList :: (behindMainWord (wordsSigns l)).tail)
    (hs : stripLifts liftWords ("cut".toList :: (behindMainWord (wordsSigns l)).tail) = ([], "cut".toList :: (behindMainWord (wordsSigns l)).tail)) (h2 : P.laysLater = false) (h3 : P.bearsReflect = false) (h4 : P.doorFits [] = true) :
    P.mayEnter = true ∧ P.liftsFinal = false ∧ P.make = some .cut := by
  generalize (behindMainWord (wordsSigns l)).tail = t at hw hs
  have e1 : ("cut".toList == "gc".toList) = false := by decide
  have e2 : ("cut".toList == "spec".toList) = false := by decide
  have e3 : ("cut".toList == "carried".toList) = false := by decide
  refine ⟨?_, ?_, ?_⟩
  · unfold Program.mayEnter
    rw [h, hw]
    simp only [hs, h2, h3, h4, e1, e2, e3]
    simp
  · unfold Program.liftsFinal Program.headLifts
    rw [h, hw]
    simp only [hs]
    simp
  · unfold Program.make
    rw [h, hw]
    simp [e1, e2, e3]
end Go.Ab
