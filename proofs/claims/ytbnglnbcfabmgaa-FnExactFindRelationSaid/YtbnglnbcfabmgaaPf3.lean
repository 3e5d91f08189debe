/- Lemmas and contracts of functions. No condition. -/
import Derived.Test.YtbnglnbcfabmgaaPf1
import Derived.Test.YtbnglnbcfabmgaaProg
namespace Go.Proofs.Ytbnglnbcfabmgaa
open Go.RowKit
set_option linter.unusedVariables false
set_option maxHeartbeats 4000000
set_option linter.unusedSimpArgs false
theorem toCurve_any (x0 x1 : Int) (w : World) : Calls Try.prog 7 #[.agg #[.int .i64 x0, .int .i64 x1]] w fun e w' => e = .returned (.agg #[.int .i64 x0, .int .i64 x1]) ∧ Below w.heap.size w w' := by
 go_enter Try.func7, Try.ntmps7
 go_wp2
 refine bodyPost_ret (v := _) (by simp [results, Try.results7, go_sem, *]) rfl ⟨rfl, ?_⟩
 exact bel
theorem toPoint_any (x0 x1 x2 : Int) (w : World) : Calls Try.prog 21 #[.agg #[.int .i64 x0, .int .i64 x1, .int .i64 x2]] w fun e w' => e = .returned (.agg #[.int .i64 x0, .int .i64 x1, .int .i64 x2]) ∧ Below w.heap.size w w' := by
 go_enter Try.func21, Try.ntmps21
 go_wp2
 refine bodyPost_ret (v := _) (by simp [results, Try.results21, go_sem, *]) rfl ⟨rfl, ?_⟩
 exact bel
end Go.Proofs.Ytbnglnbcfabmgaa
