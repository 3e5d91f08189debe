/- Cubics shifted, reversed, valued: contracts of both sides. -/
import Derived.Test.YtldonmcbnhgbdaaCu2
namespace Go.Proofs.Ytldonmcbnhgbdaa
open Go.RowKit
set_option linter.unusedVariables false
set_option maxHeartbeats 4000000
set_option maxRecDepth 20000
set_option linter.unusedSimpArgs false

def iteZ (o : Bool) (x : Int) : Int := if o = true then x else 0
theorem iteZ_f (x : Int) : iteZ false x = 0 := rfl
theorem iteZ_t (x : Int) : iteZ true x = x := rfl
def shB (a b c d k : Int) : Bool := cuB a b c d && (inB k (-10) 10 && cuB a (3 * a * k + b) (3 * a * k * k + 2 * b * k + c) (cuV a b c d k 1))
theorem at_eq (a b c d x : Int) : ((a * x + b) * x + c) * x + d = cuV a b c d x 1 := by simp [cuV]
theorem at_any (a b c d n : Int) (w : World) (ha : -1000 ≤ a ∧ a ≤ 1000) (hb : -1000 ≤ b ∧ b ≤ 1000) (hc : -1000 ≤ c ∧ c ≤ 1000) (hd : -1000 ≤ d ∧ d ≤ 1000) (hn : -10000 ≤ n ∧ n ≤ 10000) :
    Calls Try.prog 32 #[.agg #[.int .i64 a, .int .i64 b, .int .i64 c, .int .i64 d], .int .i64 n] w fun r w' => r = .returned (.int .i64 (cuV a b c d n 1)) ∧ Below w.heap.size w w' := by
  have m1 := mul_bd (a := a) (b := n) (A := 1000) (B := 10000) (by omega) (by omega)
  have m3 := mul_bd (a := a * n + b) (b := n) (A := 11000000) (B := 10000) (by omega) (by omega)
  have m6 := mul_bd (a := (a * n + b) * n + c) (b := n) (A := 111000000000) (B := 10000) (by omega) (by omega)
  rw [← at_eq]
  go_enter Try.func32, Try.ntmps32
  go_wp2
  refine bodyPost_ret (v := _) (by simp [results, Try.results32, go_sem, *]) rfl ⟨rfl, ?_⟩
  repeat' first | (with_reducible first | apply zRf | assumption | apply zDn | apply zDr | apply zAl | apply zSt | refine zVi (by assumption) ?_ ?_) | go_size
end Go.Proofs.Ytldonmcbnhgbdaa
