/- The ratios along the doublings of a point: the reference. -/
import Derived.Test.YtijpfnkhaldfeaaXd5
import Derived.Test.YtijpfnkhaldfeaaRt
namespace Go.Proofs.Ytijpfnkhaldfeaa
open Go.RowKit
set_option linter.unusedVariables false
set_option maxHeartbeats 1000000
set_option maxRecDepth 20000
set_option linter.unusedSimpArgs false
attribute [local go_sem] openAt openUpon
/-- a contract whose values are a row of ratios along the states and whether infinity was reached -/
def NewL (w : World) (T : TypeId) (st : Nat → RSt) (n : Nat) (e : Ending) (w' : World) : Prop := ∃ v zs B, e = .returned (.tuple #[v, .bool (infB (st n))]) ∧ RowRt w' B T v zs ∧ Along st zs ∧ zs.length ≤ n + 1 ∧ (atB (st n) = true ↔ zs.length = n + 1) ∧ Below w.heap.size w w'
theorem infoRatio : (Try.prog.info? 37).map (fun i => (i.zero, i.size, i.bytes)) = some (some (.agg #[.bool false, .slice none 0 0, .bool false, .slice none 0 0]), 4, 64) := by kernel_rfl
theorem fieldLimbs (b : Bool) (a : Option Addr) (n c : Nat) (w : World) : (Instr.field 35 (.agg #[.bool b, .slice a n c]) 1).run Try.prog w = .ok (.slice a n c) w := by kernel_rfl
end Go.Proofs.Ytijpfnkhaldfeaa
