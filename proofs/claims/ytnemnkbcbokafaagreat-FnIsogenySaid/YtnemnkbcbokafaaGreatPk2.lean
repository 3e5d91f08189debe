/- Lemmas and contracts of functions. No condition. -/
import Derived.Test.YtnemnkbcbokafaaGreatPk1
import Derived.Maps.AppendAt
namespace Go.Proofs.YtnemnkbcbokafaaGreat
open Go.RowKit
set_option linter.unusedVariables false
set_option linter.unusedSimpArgs false

def apart (v u : Value) : Prop := ∀ b, v.ownBlock = some b → u.ownBlock ≠ some b
theorem apart.symm {v u : Value} (h : apart v u) : apart u v := fun b hb hc => h b hc hb
/-- behind an append to v: u is kept, and what came of v lies apart from u -/
theorem apart.grown {v v' u : Value} {w : World} {B : Nat} {e : TypeId} {s n : Nat} {xs : List Value} (h : apart v u) (hu : w.ownsRow B e s u n xs)
    (hat : v'.ownBlock = v.ownBlock ∨ v'.ownBlock = some w.heap.size) : apart v' u := by
  intro b hb hc
  rcases hat with x | x
  · exact h b (by rw [← x]; exact hb) hc
  · rw [x] at hb
    obtain rfl := Option.some.inj hb
    have := hu.lt _ hc
    omega
end Go.Proofs.YtnemnkbcbokafaaGreat
