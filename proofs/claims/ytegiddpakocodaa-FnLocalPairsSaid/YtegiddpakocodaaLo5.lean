/- Quartics and pairs: contracts of both sides. -/
import Derived.Test.YtegiddpakocodaaLo4
namespace Go.Proofs.Ytegiddpakocodaa
open Go.RowKit
set_option linter.unusedVariables false
set_option maxHeartbeats 4000000
set_option linter.unusedSimpArgs false
def qaB (d a c : Int) : Bool := inB d (-100000) 100000 && (inB a (-100000) 100000 && (inB c (-100000) 100000 && (decide (d ≠ 0) && decide (c ≠ 0))))
theorem qaB_cases (d a c : Int) : (inB d (-100000) 100000 = false ∧ qaB d a c = false) ∨ (inB d (-100000) 100000 = true ∧ ((inB a (-100000) 100000 = false ∧ qaB d a c = false) ∨ (inB a (-100000) 100000 = true ∧ ((inB c (-100000) 100000 = false ∧ qaB d a c = false) ∨ (inB c (-100000) 100000 = true ∧
    ((d = 0 ∧ qaB d a c = false) ∨ (d ≠ 0 ∧ ((c = 0 ∧ qaB d a c = false) ∨ (c ≠ 0 ∧ qaB d a c = true))))))))) := by
  unfold qaB
  cases inB d (-100000) 100000 <;> cases inB a (-100000) 100000 <;> cases inB c (-100000) 100000 <;> by_cases h : d = 0 <;> by_cases h' : c = 0 <;> simp [h, h']
theorem qaB_bd {d a c : Int} (h : qaB d a c = true) : (-100000 ≤ d ∧ d ≤ 100000) ∧ (-100000 ≤ a ∧ a ≤ 100000) ∧ (-100000 ≤ c ∧ c ≤ 100000) ∧ d ≠ 0 ∧ c ≠ 0 := by
  simp [qaB, inB] at h; omega
theorem loGood_any (d a c : Int) (w : World) : Calls Try.prog 28 #[.agg #[.int .i64 d, .int .i64 a, .int .i64 c]] w fun e w' => e = .returned (.bool (qaB d a c)) ∧ Below w.heap.size w w' := by
  have T1 := fun W : World => Lib.hid (l1In_any d (-100000) 100000 W)
  have T2 := fun W : World => Lib.hid (l1In_any a (-100000) 100000 W)
  have T3 := fun W : World => Lib.hid (l1In_any c (-100000) 100000 W)
  rcases qaB_cases d a c with ⟨h1, h⟩ | ⟨h1, ⟨h2, h⟩ | ⟨h2, ⟨h3, h⟩ | ⟨h3, ⟨h4, h⟩ | ⟨h4, ⟨h5, h⟩ | ⟨h5, h⟩⟩⟩⟩⟩
  all_goals
    rw [h]
    clear h
    try rw [h1] at T1
    try rw [h2] at T2
    try rw [h3] at T3
    try clear h1
    try clear h2
    try clear h3
    try (have h4' : (d != 0) = true := by simp [h4])
    try (have h5' : (c != 0) = true := by simp [h5])
    try subst h4
    try subst h5
    go_enter Try.func28, Try.ntmps28
    go_wp2_with (first | (go_at_call 46; (with_reducible refine ((T1 _).out).mono ?_); rintro e w' ⟨rfl, rfl⟩) | (go_at_call 46; (with_reducible refine ((T2 _).out).mono ?_); rintro e w' ⟨rfl, rfl⟩) | (go_at_call 46; (with_reducible refine ((T3 _).out).mono ?_); rintro e w' ⟨rfl, rfl⟩))
    go_ret
    refine ⟨rfl, ?_⟩
    repeat' first | (with_reducible first | apply zRf | assumption | apply zDn | apply zDr | apply zAl | apply zSt | refine zVi (by assumption) ?_ ?_) | go_size
theorem isQuartic_any (d a c : Int) (w : World) : Calls Try.prog 24 #[.agg #[.int .i64 d, .int .i64 a, .int .i64 c]] w fun e w' => e = .returned (.bool (qaB d a c)) ∧ Below w.heap.size w w' := by
  have T1 := fun W : World => Lib.hid (inside_any d (-100000) 100000 W)
  have T2 := fun W : World => Lib.hid (inside_any a (-100000) 100000 W)
  have T3 := fun W : World => Lib.hid (inside_any c (-100000) 100000 W)
  rcases qaB_cases d a c with ⟨h1, h⟩ | ⟨h1, ⟨h2, h⟩ | ⟨h2, ⟨h3, h⟩ | ⟨h3, ⟨h4, h⟩ | ⟨h4, ⟨h5, h⟩ | ⟨h5, h⟩⟩⟩⟩⟩
  all_goals
    rw [h]
    clear h
    try rw [h1] at T1
    try rw [h2] at T2
    try rw [h3] at T3
    try clear h1
    try clear h2
    try clear h3
    try (have h4' : (d != 0) = true := by simp [h4])
    try (have h5' : (c != 0) = true := by simp [h5])
    try subst h4
    try subst h5
    go_enter Try.func24, Try.ntmps24
    go_wp2_with (first | (go_at_call 25; (with_reducible refine ((T1 _).out).mono ?_); rintro e w' ⟨rfl, rfl⟩) | (go_at_call 25; (with_reducible refine ((T2 _).out).mono ?_); rintro e w' ⟨rfl, rfl⟩) | (go_at_call 25; (with_reducible refine ((T3 _).out).mono ?_); rintro e w' ⟨rfl, rfl⟩))
    go_ret
    refine ⟨rfl, ?_⟩
    repeat' first | (with_reducible first | apply zRf | assumption | apply zDn | apply zDr | apply zAl | apply zSt | refine zVi (by assumption) ?_ ?_) | go_size
def paB (m e p n : Int) : Bool := (decide (e = 1) && inB m 0 (n - 1)) || (decide (m = 1) && (inB e 0 (n - 1) && decide (e % p = 0)))
theorem paB_cases (m e p n : Int) : (e = 1 ∧ inB m 0 (n - 1) = true ∧ paB m e p n = true) ∨ (((e = 1 ∧ inB m 0 (n - 1) = false) ∨ e ≠ 1) ∧ ((m ≠ 1 ∧ paB m e p n = false) ∨ (m = 1 ∧ ((inB e 0 (n - 1) = false ∧ paB m e p n = false) ∨ (inB e 0 (n - 1) = true ∧ paB m e p n = decide (e % p = 0)))))) := by
  unfold paB
  cases inB m 0 (n - 1) <;> cases inB e 0 (n - 1) <;> by_cases h : e = 1 <;> by_cases h' : m = 1 <;> simp [h, h']
theorem pa_even {e p : Int} (hp : 2 ≤ p) (h : 0 ≤ e) : (e.tmod p == 0) = decide (e % p = 0) := by
  rw [Int.tmod_eq_emod_of_nonneg h, Bool.eq_iff_iff]; simp
theorem isPair_any (m e p n : Int) (w : World) (hp : 2 ≤ p) (hp2 : p ≤ 1000) (hn : 1 ≤ n) (hn2 : n ≤ 1000000000) : Calls Try.prog 40 #[.int .i64 m, .int .i64 e, .int .i64 p, .int .i64 n] w fun r w' => r = .returned (.bool (paB m e p n)) ∧ w = w' := by
  have T1 := fun W : World => Lib.hid (inside_any m 0 (n - 1) W)
  have T2 := fun W : World => Lib.hid (inside_any e 0 (n - 1) W)
  rcases paB_cases m e p n with ⟨h1, h2, h⟩ | ⟨⟨h1, h2⟩ | h1, ⟨h3, h⟩ | ⟨h3, ⟨h4, h⟩ | ⟨h4, h⟩⟩⟩
  all_goals
    rw [h]
    clear h
    try rw [h2] at T1
    try rw [h4] at T2
    try (have hb := inB_iff.1 h4)
    try (have he := pa_even hp hb.1)
    try (have h1' : (e == 1) = false := by simp [h1])
    try (have h3' : (m == 1) = false := by simp [h3])
    try clear h2
    try clear h4
    try subst h1
    try subst h3
    go_enter Try.func40, Try.ntmps40
    go_wp2_with (first | (go_at_call 25; (with_reducible refine (T1 _).out.mono ?_); rintro e w' ⟨rfl, rfl⟩) | (go_at_call 25; (with_reducible refine (T2 _).out.mono ?_); rintro e w' ⟨rfl, rfl⟩))
    go_ret
    exact ⟨ret_bool (by first | rfl | (rw [Bool.eq_iff_iff]; simp; done) | (rw [Bool.eq_iff_iff]; simp [Int.emod_eq_of_lt (show (0 : Int) ≤ 1 by omega) (show (1 : Int) < p by omega)])), rfl⟩
end Go.Proofs.Ytegiddpakocodaa
