/- Lemmas and contracts of functions. No condition. -/
import Derived.Test.YtnkmgpmehkholaaGreatPq2
import Derived.Maps.AppendAt
import Derived.Test.YtnkmgpmehkholaaGreatProg
namespace Go.Proofs.YtnkmgpmehkholaaGreat
section
open Go.RowKit
set_option linter.unusedVariables false
set_option linter.unusedSimpArgs false

def apart (v u : Value) : Prop := ∀ b, v.ownBlock = some b → u.ownBlock ≠ some b
theorem apart.symm {v u : Value} (h : apart v u) : apart u v := fun b hb hc => h b hc hb
/-- behind an append to v: u is kept, and what came of v lies apart from u -/
theorem apart.grown {v v' u : Value} {w : World} {B : Nat} {e : TypeId} {s n : Nat} {xs : List Value} (h : apart v u) (hu : w.ownsRow B e s u n xs)
    (hat : v'.ownBlock = v.ownBlock ∨ v'.ownBlock = some w.heap.size) : apart v' u := by
  intro b hb hc
  rcases hat with x | x
  · exact h b (by rw [← x]; exact hb) hc
  · rw [x] at hb
    obtain rfl := Option.some.inj hb
    have := hu.lt _ hc
    omega
end
section
open Go.RowKit
set_option linter.unusedVariables false
set_option maxHeartbeats 4000000
set_option linter.unusedSimpArgs false
theorem toCurve_any (x0 x1 : Int) (w : World) : Calls Tryz.prog 7 #[.agg #[.int .i64 x0, .int .i64 x1]] w fun e w' => e = .returned (.agg #[.int .i64 x0, .int .i64 x1]) ∧ Below w.heap.size w w' := by
 go_enter Tryz.func7, Tryz.ntmps7
 go_wp2
 refine bodyPost_ret (v := _) (by simp [results, Tryz.results7, go_sem, *]) rfl ⟨rfl, ?_⟩
 exact bel
theorem toPoint_any (x0 x1 x2 : Int) (w : World) : Calls Tryz.prog 8 #[.agg #[.int .i64 x0, .int .i64 x1, .int .i64 x2]] w fun e w' => e = .returned (.agg #[.int .i64 x0, .int .i64 x1, .int .i64 x2]) ∧ Below w.heap.size w w' := by
 go_enter Tryz.func8, Tryz.ntmps8
 go_wp2
 refine bodyPost_ret (v := _) (by simp [results, Tryz.results8, go_sem, *]) rfl ⟨rfl, ?_⟩
 exact bel
theorem eqFraction_same (n d : Int) (w : World) : Calls Tryz.prog 13 #[.agg #[.int .i64 n, .int .i64 d], .agg #[.int .i64 n, .int .i64 d]] w fun e w' => e = .returned (.bool true) ∧ Below w.heap.size w w' := by
 have e1 : (n != n) = false := by simp
 have e2 : (d != d) = false := by simp
 go_enter Tryz.func13, Tryz.ntmps13
 go_wp2
 go_ret
 refine ⟨rfl, ?_⟩
 exact bel
end
end Go.Proofs.YtnkmgpmehkholaaGreat
