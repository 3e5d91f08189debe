/- The walks of the laws on intervals: the program returns what the reference returns. -/
import Derived.Test.YthifeabcobgbmaaIv2
import Derived.Test.YthifeabcobgbmaaIvS
namespace Go.Proofs.Ythifeabcobgbmaa
open Go.RowKit
set_option linter.unusedVariables false
set_option maxHeartbeats 4000000
set_option linter.unusedSimpArgs false

theorem opV_lit (g : Bool) (a b : Int) : opV g a b = .tuple #[.agg #[.int .i64 (ivN1 g a b), .int .i64 (ivD1 g a b), .int .i64 (ivN2 g a b), .int .i64 (ivD2 g a b)], .bool (g && validB a b)] := by rw [opV_eq, ivV]
end Go.Proofs.Ythifeabcobgbmaa
