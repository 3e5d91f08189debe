/- Lemmas and contracts of functions. No condition. -/
import Derived.Test.YtnemnkbcbokafaaGreatPk1
namespace Go.Proofs.YtnemnkbcbokafaaGreat
def tupAt (v : Value) (i : Nat) : Value := match v with
  | .tuple vs => vs.getD i undef
  | _ => undef
theorem tupAt0 (a b : Value) : tupAt (.tuple #[a, b]) 0 = a := rfl
theorem tupAt1 (a b : Value) : tupAt (.tuple #[a, b]) 1 = b := rfl
end Go.Proofs.YtnemnkbcbokafaaGreat
