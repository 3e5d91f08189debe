/- Curves: the bounds of doublings: contracts of both sides. -/
import Derived.Test.YtijpfnkhaldfeaaEc1
namespace Go.Proofs.Ytijpfnkhaldfeaa
open Go.RowKit
set_option linter.unusedVariables false
set_option maxHeartbeats 2000000
set_option maxRecDepth 20000
set_option linter.unusedSimpArgs false
attribute [local go_sem] openAt openUpon
def dbM (a b : Int) : Int := most (1 + 2 * a + 8 * b + a * a) (4 * (1 + a + b))
def dbP (a b : Int) : Int := 15 + 21 * a + 27 * b
def dbQ (a b d : Int) : Int := 4 * d + 5 * a * a * b + 4 * a * (3 * a * a * a + 22 * b * b) + 12 * b * (a * a * a + 8 * b * b) + (a * (5 * a * a * a + 32 * b * b) + 2 * b * (13 * a * a * a + 96 * b * b) + 3 * a * a * (a * a * a + 8 * b * b))
def dbK (a b d : Int) : Int := most (dbP a b) (dbQ a b d)
theorem most_bd {x y M : Int} (hx : 0 ≤ x ∧ x ≤ M) (hy : 0 ≤ y ∧ y ≤ M) : 0 ≤ most x y ∧ most x y ≤ M := by rw [most_eq]; omega
end Go.Proofs.Ytijpfnkhaldfeaa
