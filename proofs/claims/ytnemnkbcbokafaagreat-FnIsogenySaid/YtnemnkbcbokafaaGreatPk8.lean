/- Lemmas and contracts of functions. No condition. -/
import Derived.Test.YtnemnkbcbokafaaGreatPk1
namespace Go.Proofs.YtnemnkbcbokafaaGreat
open Go.RowKit
set_option linter.unusedVariables false
set_option maxHeartbeats 0
set_option maxRecDepth 20000
set_option linter.unusedSimpArgs false
def headIs (id : Nat) : Code → Bool
  | .region i _ _ => i == id
  | .seq a _ => headIs id a
  | _ => false
/-- the statements from the one on that begins with the region -/
def dropTo (id : Nat) : Code → Code
  | .seq a b => match headIs id a with
    | true => .seq a b
    | false => dropTo id b
  | c => c
def bodyOf (f : Func) : Code := match f.body with | some c => c | none => .skip
end Go.Proofs.YtnemnkbcbokafaaGreat
