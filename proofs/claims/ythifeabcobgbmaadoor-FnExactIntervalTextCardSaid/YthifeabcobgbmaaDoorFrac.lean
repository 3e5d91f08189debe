/- Contracts: lowest terms, floors, the order of fractions. -/
import Derived.Test.YthifeabcobgbmaaDoorNum
namespace Go.Proofs.YthifeabcobgbmaaDoor
open Go.RowKit
set_option linter.unusedVariables false
set_option maxHeartbeats 4000000
set_option linter.unusedSimpArgs false

end Go.Proofs.YthifeabcobgbmaaDoor
