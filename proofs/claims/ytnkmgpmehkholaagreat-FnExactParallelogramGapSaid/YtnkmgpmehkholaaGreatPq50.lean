/- Lemmas and contracts of functions. No condition. -/
import Derived.Test.YtnkmgpmehkholaaGreatPq35
import Derived.Test.YtnkmgpmehkholaaGreatPq46
import Derived.Test.YtnkmgpmehkholaaGreatPq48
import Derived.Test.YtnkmgpmehkholaaGreatPq49
import Derived.Deep.RegionHeld3
namespace Go.Proofs.YtnkmgpmehkholaaGreat
open Go.RowKit
set_option linter.unusedVariables false
set_option maxHeartbeats 4000000
set_option maxRecDepth 20000
set_option linter.unusedSimpArgs false
attribute [local go_sem] openAt openUpon
theorem kp_B {v : Bool} {x : Int} (h : 0 ≤ x ∧ x ≤ 14100000) : 0 ≤ kpV v x ∧ kpV v x ≤ 14100000 := by unfold kpV; split <;> omega
theorem cal_blk {T : TypeId} {w w1 : World} {p b : Nat} {v : Bool} {X : Obj} (h : Cal T w w1 p v) (e : w.heap[b]? = some X) (hne : b ≠ p) : w1.heap[b]? = some X := (h.block b (blk_lt' e) hne).trans e
theorem CalE.cell {T : TypeId} {w w1 : World} {p : Nat} (h : CalE T w w1 p) (b : Nat) (hb : b < w.heap.size) (hp : b ≠ p) (o : Nat) : w1.cell? ⟨b, o, none⟩ = w.cell? ⟨b, o, none⟩ := h.elim fun v h => calCell h b hb hp o
end Go.Proofs.YtnkmgpmehkholaaGreat
