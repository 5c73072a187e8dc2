/- Decimals: a text of digits is what its number is written as, unless it begins with a needless zero. Conditions: none. -/
import Derived.Test.YtcjchimenfadkaaDoorAb4
import Derived.KernelRfl
set_option linter.unusedSimpArgs false
set_option linter.unusedVariables false
set_option linter.defProp false
open Go Go.Ab
set_option maxHeartbeats 2000000
namespace Go.Proofs.YtcjchimenfadkaaDoor.W
end Go.Proofs.YtcjchimenfadkaaDoor.W
