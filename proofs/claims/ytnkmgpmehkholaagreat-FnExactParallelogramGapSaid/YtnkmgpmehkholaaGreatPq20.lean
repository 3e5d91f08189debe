/- Lemmas and contracts of functions. No condition. -/
import Derived.Test.YtnkmgpmehkholaaGreatPq15
import Derived.WalkLawsBesides
namespace Go.Proofs.YtnkmgpmehkholaaGreat
open Go.RowKit
set_option linter.unusedVariables false
set_option maxHeartbeats 4000000
set_option linter.unusedSimpArgs false

theorem plus_any (a b c d : Int) (w : World) (h1 : -409600000 ≤ a ∧ a ≤ 409600000) (h2 : -409600000 ≤ b ∧ b ≤ 409600000) (h3 : -409600000 ≤ c ∧ c ≤ 409600000) (h4 : -409600000 ≤ d ∧ d ≤ 409600000) :
  Calls Tryz.prog 61 #[.agg #[.int .i64 a, .int .i64 b], .agg #[.int .i64 c, .int .i64 d]] w fun e w' => e = .returned (.agg #[.int .i64 (a + c), .int .i64 (b + d)]) ∧ Below w.heap.size w w' := by
 go_enter Tryz.func61, Tryz.ntmps61
 go_wp2
 refine bodyPost_ret (v := .agg #[.int .i64 (a + c), .int .i64 (b + d)]) (by simp [results, Tryz.results61, go_sem, *]) rfl ⟨rfl, ?_⟩
 exact bel
theorem minus_any (a b c d : Int) (w : World) (h1 : -409600000 ≤ a ∧ a ≤ 409600000) (h2 : -409600000 ≤ b ∧ b ≤ 409600000) (h3 : -409600000 ≤ c ∧ c ≤ 409600000) (h4 : -409600000 ≤ d ∧ d ≤ 409600000) :
  Calls Tryz.prog 62 #[.agg #[.int .i64 a, .int .i64 b], .agg #[.int .i64 c, .int .i64 d]] w fun e w' => e = .returned (.agg #[.int .i64 (a - d), .int .i64 (b - c)]) ∧ Below w.heap.size w w' := by
 go_enter Tryz.func62, Tryz.ntmps62
 go_wp2
 refine bodyPost_ret (v := .agg #[.int .i64 (a - d), .int .i64 (b - c)]) (by simp [results, Tryz.results62, go_sem, *]) rfl ⟨rfl, ?_⟩
 exact bel
theorem common_span_any (a b c d : Int) (w : World) (h1 : -409600000 ≤ a ∧ a ≤ 409600000) (h2 : -409600000 ≤ b ∧ b ≤ 409600000) (h3 : -409600000 ≤ c ∧ c ≤ 409600000) (h4 : -409600000 ≤ d ∧ d ≤ 409600000) :
  Calls Tryz.prog 79 #[.agg #[.int .i64 a, .int .i64 b], .agg #[.int .i64 c, .int .i64 d]] w fun e w' => e = .returned (.agg #[.int .i64 (max a c), .int .i64 (min b d)]) ∧ Below w.heap.size w w' := by
 rcases Int.lt_or_le a c with x1 | x1 <;> rcases Int.lt_or_le d b with x2 | x2
 all_goals
  first | rw [show max a c = c by omega] | rw [show max a c = a by omega]
  first | rw [show min b d = d by omega] | rw [show min b d = b by omega]
  go_enter Tryz.func79, Tryz.ntmps79
  go_wp2
  refine bodyPost_ret (v := _) (by simp [results, Tryz.results79, go_sem, *]; try (constructor <;> omega)) rfl ⟨rfl, ?_⟩
  exact bel
section
variable {P : Program} (w : World)
@[go_sem] theorem run_min_int4 (ts : Array TypeId) (t : TypeId) (k k1 k2 k3 : IntKind) (x y z u : Int) : (Builtin.min_ ts t #[.int k x, .int k1 y, .int k2 z, .int k3 u]).run P w = .ok (.int k (min (min (min x y) z) u)) w := by
 simp [Builtin.min_, Builtin.min2]
 omega
@[go_sem] theorem run_max_int4 (ts : Array TypeId) (t : TypeId) (k k1 k2 k3 : IntKind) (x y z u : Int) : (Builtin.max_ ts t #[.int k x, .int k1 y, .int k2 z, .int k3 u]).run P w = .ok (.int k (max (max (max x y) z) u)) w := by
 simp [Builtin.max_, Builtin.max2]
 omega
end
end Go.Proofs.YtnkmgpmehkholaaGreat
