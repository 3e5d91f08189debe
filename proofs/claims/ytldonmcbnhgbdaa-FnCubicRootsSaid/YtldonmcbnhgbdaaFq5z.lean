/- The cursor draws cubics: contracts that tell the shape alone. -/
import Derived.Test.YtldonmcbnhgbdaaCm
import Derived.Test.YtldonmcbnhgbdaaCu2
namespace Go.Proofs.Ytldonmcbnhgbdaa
open Go.RowKit
set_option linter.unusedVariables false
set_option maxHeartbeats 4000000
set_option maxRecDepth 20000
set_option linter.unusedSimpArgs false

theorem alloc_two (W : World) (o p : Obj) : ((W.alloc o).alloc p).heap[W.heap.size + 1]? = some p := by
  have := heap_alloc_new (W.alloc o) p
  simpa using this
theorem cuGood_some (a b c d : Int) (w : World) : Calls Try.prog 27 #[.agg #[.int .i64 a, .int .i64 b, .int .i64 c, .int .i64 d]] w fun e w' => ∃ x : Bool, e = .returned (.bool x) ∧ Below w.heap.size w w' :=
  (cuGood_any a b c d w).mono fun _ _ h => ⟨_, h⟩
end Go.Proofs.Ytldonmcbnhgbdaa
