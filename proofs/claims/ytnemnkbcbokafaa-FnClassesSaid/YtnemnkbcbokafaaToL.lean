/- The laws' copies of small structs of integers, and equality of what comes back. -/
import Derived.Test.YtnemnkbcbokafaaProg
import Derived.Test.YtnemnkbcbokafaaBase
namespace Go.Proofs.Ytnemnkbcbokafaa
open Go.RowKit
set_option linter.unusedVariables false
set_option maxHeartbeats 4000000
set_option linter.unusedSimpArgs false
end Go.Proofs.Ytnemnkbcbokafaa
