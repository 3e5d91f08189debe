/- Whole numbers in memory: making them out of integers, turning signs; both sides. -/
import Derived.Test.YtndmacieecmapaaBg1
import Derived.Test.YtndmacieecmapaaNum
namespace Go.Proofs.Ytndmacieecmapaa
open Go.RowKit
set_option linter.unusedVariables false
set_option maxHeartbeats 4000000
set_option maxRecDepth 20000
set_option linter.unusedSimpArgs false
def MkRel (n : Nat) (zs : List Int) (v : Value) : Prop := ∃ k : Nat, k ≤ n ∧ v = .int .i64 k ∧ ∀ j, k ≤ j → j < n → zs.getD j 0 = 0
end Go.Proofs.Ytndmacieecmapaa
