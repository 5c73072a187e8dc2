/- Decimals. Conditions: none. -/
import Derived.Test.YtcjchimenfadkaaDoorNamesG
import Derived.Test.YtcjchimenfadkaaDoorSheetNum
set_option linter.unusedSimpArgs false
set_option linter.unusedVariables false
set_option linter.defProp false
open Go Go.Ab
set_option maxHeartbeats 2000000
namespace Go.Proofs.YtcjchimenfadkaaDoor.W
end Go.Proofs.YtcjchimenfadkaaDoor.W
