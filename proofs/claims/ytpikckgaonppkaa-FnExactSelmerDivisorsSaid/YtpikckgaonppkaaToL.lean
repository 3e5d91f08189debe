/- The laws' copies of small structs of integers, and equality of what comes back. -/
import Derived.Test.YtpikckgaonppkaaProg
import Derived.Test.YtpikckgaonppkaaBase
namespace Go.Proofs.Ytpikckgaonppkaa
open Go.RowKit
set_option linter.unusedVariables false
set_option maxHeartbeats 4000000
set_option linter.unusedSimpArgs false
theorem toTwoCurve_any (x0 x1 : Int) (w : World) : Calls Try.prog 24 #[.agg #[.int .i64 x0, .int .i64 x1]] w fun e w' => e = .returned (.agg #[.int .i64 x0, .int .i64 x1]) ∧ Below w.heap.size w w' := by
  go_enter Try.func24, Try.ntmps24
  go_wp2
  refine bodyPost_ret (v := _) (by simp [results, Try.results24, go_sem, *]) rfl ⟨rfl, ?_⟩
  repeat' first | (with_reducible first | apply zRf | assumption | apply zDn | apply zDr | apply zAl | apply zSt | refine zVi (by assumption) ?_ ?_) | go_size
theorem toQuartic_any (x0 x1 x2 : Int) (w : World) : Calls Try.prog 12 #[.agg #[.int .i64 x0, .int .i64 x1, .int .i64 x2]] w fun e w' => e = .returned (.agg #[.int .i64 x0, .int .i64 x1, .int .i64 x2]) ∧ Below w.heap.size w w' := by
  go_enter Try.func12, Try.ntmps12
  go_wp2
  refine bodyPost_ret (v := _) (by simp [results, Try.results12, go_sem, *]) rfl ⟨rfl, ?_⟩
  repeat' first | (with_reducible first | apply zRf | assumption | apply zDn | apply zDr | apply zAl | apply zSt | refine zVi (by assumption) ?_ ?_) | go_size
end Go.Proofs.Ytpikckgaonppkaa
