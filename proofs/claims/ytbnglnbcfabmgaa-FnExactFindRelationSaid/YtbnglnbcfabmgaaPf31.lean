/- Lemmas and contracts of functions. No condition. -/
import Derived.Test.YtbnglnbcfabmgaaPf24
import Derived.Test.YtbnglnbcfabmgaaPf29
namespace Go.Proofs.Ytbnglnbcfabmgaa
open Go.RowKit
set_option linter.unusedVariables false
set_option linter.unusedSimpArgs false
abbrev P3 := Int × Int × Int
/-- is there a point at x over e, and its second coordinate -/
noncomputable def hvOk (A B x e : Int) : Bool := decide (gcdI x e = 1) && (exR (evV A B x e)).2
noncomputable def hvY (A B x e : Int) : Int := (exR (evV A B x e)).1
noncomputable def pm (q : P3) : List P3 := if q.2.1 = 0 then [(q.1, 0, q.2.2)] else [(q.1, -q.2.1, q.2.2), q]
noncomputable def hvQ (A B x e : Int) : List P3 := if hvOk A B x e = true then pm (x, hvY A B x e, e) else []
/-- is p twice q -/
noncomputable def kp (A : Int) (p q : P3) : Bool := decide (ptS A q.1 q.2.1 q.2.2 q.1 q.2.1 q.2.2 = (p.1, p.2.1, p.2.2, true))
noncomputable def hvX (A B : Int) (m : Nat) (e : Int) (p : P3) : Nat → List P3
  | 0 => []
  | k + 1 => hvX A B m e p k ++ (hvQ A B (-(m : Int) + k) e).filter (kp A p)
noncomputable def hvE (A B : Int) (m : Nat) (p : P3) : Nat → List P3
  | 0 => []
  | k + 1 => hvE A B m p k ++ hvX A B m ((k : Int) + 1) p (2 * m + 1)
noncomputable def hvW (A B : Int) (m : Nat) (e : Int) : Nat → List P3
  | 0 => []
  | k + 1 => hvW A B m e k ++ if hvOk A B (-(m : Int) + k) e = true then [(-(m : Int) + k, hvY A B (-(m : Int) + k) e, e)] else []
noncomputable def pmK (A : Int) (p q : P3) : List P3 := (pm q).filter (kp A p)
end Go.Proofs.Ytbnglnbcfabmgaa
