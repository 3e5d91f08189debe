/- Quartics: values, depths, real points: contracts of both sides. -/
import Derived.Test.YtnemnkbcbokafaaPln
import Derived.Test.YtnemnkbcbokafaaLoA
import Derived.Test.YtnemnkbcbokafaaDrA
namespace Go.Proofs.Ytnemnkbcbokafaa
open Go.RowKit
set_option linter.unusedVariables false
set_option maxHeartbeats 4000000
set_option maxRecDepth 20000
set_option linter.unusedSimpArgs false
def ifZ (o : Bool) (x : Int) : Int := if o = true then x else 0
theorem ifZ_f (x : Int) : ifZ false x = 0 := rfl
theorem ifZ_t (x : Int) : ifZ true x = x := rfl
theorem qv_eq (D A C m e : Int) : (D * m * m + A * e * e) * m * m + C * e * e * e * e = qvV D A C m e := by unfold qvV; grind
theorem qv_eq2 (D A C m e : Int) : D * (m * m) * (m * m) + A * (m * m) * (e * e) + C * (e * e) * (e * e) = qvV D A C m e := rfl
def qvB (D A C m e : Int) : Bool := qaB D A C && (inB m (-1000) 1000 && inB e (-1000) 1000)
theorem qvalue_any (D A C m e : Int) (w : World) (hD : -100000 ≤ D ∧ D ≤ 100000) (hA : -100000 ≤ A ∧ A ≤ 100000) (hC : -100000 ≤ C ∧ C ≤ 100000) (hm : -1000 ≤ m ∧ m ≤ 1000) (he : -1000 ≤ e ∧ e ≤ 1000) :
    Calls Try.prog 49 #[.agg #[.int .i64 D, .int .i64 A, .int .i64 C], .int .i64 m, .int .i64 e] w fun r w' => r = .returned (.int .i64 (qvV D A C m e)) ∧ Below w.heap.size w w' := by
  have m1 := mul_bd (a := D) (b := m) (A := 100000) (B := 1000) (by omega) (by omega)
  have m2 := mul_bd (a := D * m) (b := m) (A := 100000000) (B := 1000) (by omega) (by omega)
  have m3 := mul_bd (a := A) (b := e) (A := 100000) (B := 1000) (by omega) (by omega)
  have m4 := mul_bd (a := A * e) (b := e) (A := 100000000) (B := 1000) (by omega) (by omega)
  have m5 := mul_bd (a := D * m * m + A * e * e) (b := m) (A := 200000000000) (B := 1000) (by omega) (by omega)
  have m6 := mul_bd (a := (D * m * m + A * e * e) * m) (b := m) (A := 200000000000000) (B := 1000) (by omega) (by omega)
  have m7 := mul_bd (a := C) (b := e) (A := 100000) (B := 1000) (by omega) (by omega)
  have m8 := mul_bd (a := C * e) (b := e) (A := 100000000) (B := 1000) (by omega) (by omega)
  have m9 := mul_bd (a := C * e * e) (b := e) (A := 100000000000) (B := 1000) (by omega) (by omega)
  have n1 := mul_bd (a := C * e * e * e) (b := e) (A := 100000000000000) (B := 1000) (by omega) (by omega)
  rw [← qv_eq]
  go_enter Try.func49, Try.ntmps49
  go_wp2
  refine bodyPost_ret (v := _) (by simp [results, Try.results49, go_sem, *]) rfl ⟨rfl, ?_⟩
  repeat' first | (with_reducible first | apply zRf | assumption | apply zDn | apply zDr | apply zAl | apply zSt | refine zVi (by assumption) ?_ ?_) | go_size
theorem loValue_any (D A C m e : Int) (w : World) (hD : -100000 ≤ D ∧ D ≤ 100000) (hA : -100000 ≤ A ∧ A ≤ 100000) (hC : -100000 ≤ C ∧ C ≤ 100000) (hm : -1000 ≤ m ∧ m ≤ 1000) (he : -1000 ≤ e ∧ e ≤ 1000) :
    Calls Try.prog 45 #[.agg #[.int .i64 D, .int .i64 A, .int .i64 C], .int .i64 m, .int .i64 e] w fun r w' => r = .returned (.int .i64 (qvV D A C m e)) ∧ Below w.heap.size w w' := by
  have m1 := mul_bd (a := m) (b := m) (A := 1000) (B := 1000) (by omega) (by omega)
  have m2 := mul_bd (a := e) (b := e) (A := 1000) (B := 1000) (by omega) (by omega)
  have m3 := mul_bd (a := D) (b := m * m) (A := 100000) (B := 1000000) (by omega) (by omega)
  have m4 := mul_bd (a := D * (m * m)) (b := m * m) (A := 100000000000) (B := 1000000) (by omega) (by omega)
  have m5 := mul_bd (a := A) (b := m * m) (A := 100000) (B := 1000000) (by omega) (by omega)
  have m6 := mul_bd (a := A * (m * m)) (b := e * e) (A := 100000000000) (B := 1000000) (by omega) (by omega)
  have m7 := mul_bd (a := C) (b := e * e) (A := 100000) (B := 1000000) (by omega) (by omega)
  have m8 := mul_bd (a := C * (e * e)) (b := e * e) (A := 100000000000) (B := 1000000) (by omega) (by omega)
  rw [← qv_eq2]
  go_enter Try.func45, Try.ntmps45
  go_wp2_with fail
  (try go_quiet (fail))
  (try go_wp2_with fail)
  refine bodyPost_ret (v := _) (by simp [results, Try.results45, go_sem, *]) rfl ⟨rfl, ?_⟩
  repeat' first | (with_reducible first | apply zRf | assumption | apply zDn | apply zDr | apply zAl | apply zSt | refine zVi (by assumption) ?_ ?_) | go_size
end Go.Proofs.Ytnemnkbcbokafaa
