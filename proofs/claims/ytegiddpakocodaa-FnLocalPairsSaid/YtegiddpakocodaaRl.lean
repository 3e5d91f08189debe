/- Real points of quartics: contracts of both sides. -/
import Derived.Test.YtegiddpakocodaaLo5
import Derived.Test.YtegiddpakocodaaDrawn
namespace Go.Proofs.Ytegiddpakocodaa
open Go.RowKit
set_option linter.unusedVariables false
set_option maxHeartbeats 4000000
set_option maxRecDepth 20000
set_option linter.unusedSimpArgs false
def rlB (D A C : Int) : Bool := decide (0 < D) || (decide (0 < C) || (decide (0 < A) && decide (4 * D * C ≤ A * A)))
theorem isReal_any (D A C : Int) (w : World) (hq : qaB D A C = true) : Calls Try.prog 55 #[.agg #[.int .i64 D, .int .i64 A, .int .i64 C]] w fun e w' => e = .returned (.bool (rlB D A C)) ∧ Below w.heap.size w w' := by
  have hb := qaB_bd hq
  have m1 := mul_bd (a := A) (b := A) (A := 100000) (B := 100000) (by omega) (by omega)
  have m2 := mul_bd (a := 4 * D) (b := C) (A := 400000) (B := 100000) (by omega) (by omega)
  unfold rlB
  by_cases h1 : 0 < D
  · rw [show decide (0 < D) = true by simpa using h1]
    go_enter Try.func55, Try.ntmps55
    go_wp2
    go_ret
    refine ⟨by simp, ?_⟩
    repeat' first | (with_reducible first | apply zRf | assumption | apply zDn | apply zDr | apply zAl | apply zSt | refine zVi (by assumption) ?_ ?_) | go_size
  · rw [show decide (0 < D) = false by simpa using h1]
    by_cases h2 : 0 < C
    · rw [show decide (0 < C) = true by simpa using h2]
      go_enter Try.func55, Try.ntmps55
      go_wp2
      go_ret
      refine ⟨by simp, ?_⟩
      repeat' first | (with_reducible first | apply zRf | assumption | apply zDn | apply zDr | apply zAl | apply zSt | refine zVi (by assumption) ?_ ?_) | go_size
    · rw [show decide (0 < C) = false by simpa using h2]
      by_cases h3 : 0 < A
      · rw [show decide (0 < A) = true by simpa using h3]
        by_cases h4 : 4 * D * C ≤ A * A
        · rw [show decide (4 * D * C ≤ A * A) = true by simpa using h4]
          go_enter Try.func55, Try.ntmps55
          go_wp2
          go_ret
          refine ⟨by simp [h4], ?_⟩
          repeat' first | (with_reducible first | apply zRf | assumption | apply zDn | apply zDr | apply zAl | apply zSt | refine zVi (by assumption) ?_ ?_) | go_size
        · rw [show decide (4 * D * C ≤ A * A) = false by simpa using h4]
          go_enter Try.func55, Try.ntmps55
          go_wp2
          go_ret
          refine ⟨by simp [h4], ?_⟩
          repeat' first | (with_reducible first | apply zRf | assumption | apply zDn | apply zDr | apply zAl | apply zSt | refine zVi (by assumption) ?_ ?_) | go_size
      · rw [show decide (0 < A) = false by simpa using h3]
        go_enter Try.func55, Try.ntmps55
        go_wp2
        go_ret
        refine ⟨by simp, ?_⟩
        repeat' first | (with_reducible first | apply zRf | assumption | apply zDn | apply zDr | apply zAl | apply zSt | refine zVi (by assumption) ?_ ?_) | go_size
end Go.Proofs.Ytegiddpakocodaa
