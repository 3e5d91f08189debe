/- Parts: Powers modulo a prime, symbols, squares modulo powers: contracts of both sides, Squares modulo powers of primes: contracts of both sides, Squares modulo powers of primes: the reference; quartics and pairs: contracts of both sides, Quartics and pairs: contracts of both sides, Pairs and depths of the reference; products of residues. -/
import Derived.Test.YtnemnkbcbokafaaLo
namespace Go.Proofs.Ytnemnkbcbokafaa
section
open Go.RowKit
set_option linter.unusedVariables false
set_option maxHeartbeats 4000000
set_option linter.unusedSimpArgs false
def PwRel (a n p : Int) (x o b : Value) : Prop := ∃ m u v : Int, x = .int .i64 m ∧ o = .int .i64 u ∧ b = .int .i64 v ∧ 0 ≤ m ∧ m ≤ 1000000000 ∧ (0 ≤ u ∧ u < p) ∧ (0 ≤ v ∧ v < p) ∧ Cg p (u * v ^ m.toNat) (a ^ n.toNat)
theorem pwr_odd {a n p m u v : Int} (hp : 2 ≤ p) (hm : 0 < m) (hm2 : m ≤ 1000000000) (hu : 0 ≤ u ∧ u < p) (hv : 0 ≤ v ∧ v < p) (h : Cg p (u * v ^ m.toNat) (a ^ n.toNat)) (ho : m % 2 = 1) :
    PwRel a n p (.int .i64 (m / 2)) (.int .i64 ((u * v).tmod p)) (.int .i64 ((v * v).tmod p)) := by
  have e1 : (u * v).tmod p = u * v % p := Int.tmod_eq_emod_of_nonneg (Int.mul_nonneg hu.1 hv.1)
  have e2 : (v * v).tmod p = v * v % p := Int.tmod_eq_emod_of_nonneg (Int.mul_nonneg hv.1 hv.1)
  rw [e1, e2]
  exact ⟨m / 2, _, _, rfl, rfl, rfl, by omega, by omega, ⟨Int.emod_nonneg _ (by omega), Int.emod_lt_of_pos _ (by omega)⟩, ⟨Int.emod_nonneg _ (by omega), Int.emod_lt_of_pos _ (by omega)⟩, (pw_odd (by omega) ho).trans h⟩
theorem pwr_even {a n p m u v : Int} (hp : 2 ≤ p) (hm : 0 < m) (hm2 : m ≤ 1000000000) (hu : 0 ≤ u ∧ u < p) (hv : 0 ≤ v ∧ v < p) (h : Cg p (u * v ^ m.toNat) (a ^ n.toNat)) (ho : m % 2 ≠ 1) :
    PwRel a n p (.int .i64 (m / 2)) (.int .i64 u) (.int .i64 ((v * v).tmod p)) := by
  have e2 : (v * v).tmod p = v * v % p := Int.tmod_eq_emod_of_nonneg (Int.mul_nonneg hv.1 hv.1)
  rw [e2]
  exact ⟨m / 2, _, _, rfl, rfl, rfl, by omega, by omega, hu, ⟨Int.emod_nonneg _ (by omega), Int.emod_lt_of_pos _ (by omega)⟩, (pw_even (by omega) (by omega)).trans h⟩
theorem tdiv2_lt {m : Int} (h : 0 < m) : (m / 2).toNat < m.toNat := by omega
theorem one_tmod {p : Int} (hp : 2 ≤ p) : (1 : Int).tmod p = 1 := by
  rw [Int.tmod_eq_emod_of_nonneg (by omega)]; exact Int.emod_eq_of_lt (by omega) (by omega)
def sy1 (a p : Int) : Bool := decide (pwM a ((p - 1) / 2) p = 1)
def syI (a p : Int) : Int := if pwM a ((p - 1) / 2) p = 0 then 0 else if pwM a ((p - 1) / 2) p = 1 then 1 else -1
def syS (a p : Int) : Int := if pwM a ((p - 1) / 2) p = p - 1 then -1 else pwM a ((p - 1) / 2) p
theorem syI_one (a p : Int) : (syI a p == 1) = sy1 a p := by
  unfold syI sy1
  generalize pwM a ((p - 1) / 2) p = x
  rw [Bool.eq_iff_iff]
  by_cases h : x = 0 <;> by_cases h' : x = 1 <;> simp [h, h']
theorem syS_one (a p : Int) (hp : 3 ≤ p) : (syS a p == 1) = sy1 a p := by
  unfold syS sy1
  generalize pwM a ((p - 1) / 2) p = x
  rw [Bool.eq_iff_iff]
  by_cases h : x = p - 1
  · simp [h]; omega
  · simp [h]
end
section
open Go.RowKit
set_option linter.unusedVariables false
set_option maxHeartbeats 4000000
set_option linter.unusedSimpArgs false
theorem sy1_sym (a p : Int) : sy1 a p = symB a p := rfl
theorem sq_zero (p : Int) (k : Nat) : sqLo 0 p k = true := by simp [sqLo]
theorem sq_odd {r p : Int} {k : Nat} (h0 : r ≠ 0) (h : vl r p % 2 = 1) : sqLo r p k = false := by simp [sqLo, h0, h]
theorem sq_big {r p : Int} {k : Nat} (h0 : r ≠ 0) (h : vl r p % 2 ≠ 1) (hp : 2 < p) : sqLo r p k = symB (r / p ^ vl r p) p := by simp [sqLo, h0, h, hp]
theorem sq_two {r : Int} {k : Nat} (h0 : r ≠ 0) (h : vl r 2 % 2 ≠ 1) : sqLo r 2 k = decide ((r / 2 ^ vl r 2) % 2 ^ (min 3 (k - vl r 2)) = 1) := by simp [sqLo, h0, h]
end
section
open Go.RowKit
set_option linter.unusedVariables false
set_option maxHeartbeats 4000000
set_option linter.unusedSimpArgs false
theorem oft_min {r p : Int} {k : Nat} (h : r ≠ 0) : least (k : Int) (vl r p : Nat) = (oft r p k : Nat) := by
  rw [least_eq, oft, if_neg h]; omega
end
section
open Go.RowKit
set_option linter.unusedVariables false
set_option maxHeartbeats 4000000
set_option linter.unusedSimpArgs false
def qaB (d a c : Int) : Bool := inB d (-100000) 100000 && (inB a (-100000) 100000 && (inB c (-100000) 100000 && (decide (d ≠ 0) && decide (c ≠ 0))))
theorem qaB_cases (d a c : Int) : (inB d (-100000) 100000 = false ∧ qaB d a c = false) ∨ (inB d (-100000) 100000 = true ∧ ((inB a (-100000) 100000 = false ∧ qaB d a c = false) ∨ (inB a (-100000) 100000 = true ∧ ((inB c (-100000) 100000 = false ∧ qaB d a c = false) ∨ (inB c (-100000) 100000 = true ∧
    ((d = 0 ∧ qaB d a c = false) ∨ (d ≠ 0 ∧ ((c = 0 ∧ qaB d a c = false) ∨ (c ≠ 0 ∧ qaB d a c = true))))))))) := by
  unfold qaB
  cases inB d (-100000) 100000 <;> cases inB a (-100000) 100000 <;> cases inB c (-100000) 100000 <;> by_cases h : d = 0 <;> by_cases h' : c = 0 <;> simp [h, h']
theorem qaB_bd {d a c : Int} (h : qaB d a c = true) : (-100000 ≤ d ∧ d ≤ 100000) ∧ (-100000 ≤ a ∧ a ≤ 100000) ∧ (-100000 ≤ c ∧ c ≤ 100000) ∧ d ≠ 0 ∧ c ≠ 0 := by
  simp [qaB, inB] at h; omega
theorem isQuartic_any (d a c : Int) (w : World) : Calls Try.prog 55 #[.agg #[.int .i64 d, .int .i64 a, .int .i64 c]] w fun e w' => e = .returned (.bool (qaB d a c)) ∧ Below w.heap.size w w' := by
  have T1 := fun W : World => Lib.hid (inside_any d (-100000) 100000 W)
  have T2 := fun W : World => Lib.hid (inside_any a (-100000) 100000 W)
  have T3 := fun W : World => Lib.hid (inside_any c (-100000) 100000 W)
  rcases qaB_cases d a c with ⟨h1, h⟩ | ⟨h1, ⟨h2, h⟩ | ⟨h2, ⟨h3, h⟩ | ⟨h3, ⟨h4, h⟩ | ⟨h4, ⟨h5, h⟩ | ⟨h5, h⟩⟩⟩⟩⟩
  all_goals
    rw [h]
    clear h
    try rw [h1] at T1
    try rw [h2] at T2
    try rw [h3] at T3
    try clear h1
    try clear h2
    try clear h3
    try (have h4' : (d != 0) = true := by simp [h4])
    try (have h5' : (c != 0) = true := by simp [h5])
    try subst h4
    try subst h5
    go_enter Try.func55, Try.ntmps55
    go_wp2_with (first | (go_at_call 29; (with_reducible refine ((T1 _).out).mono ?_); rintro e w' ⟨rfl, rfl⟩) | (go_at_call 29; (with_reducible refine ((T2 _).out).mono ?_); rintro e w' ⟨rfl, rfl⟩) | (go_at_call 29; (with_reducible refine ((T3 _).out).mono ?_); rintro e w' ⟨rfl, rfl⟩))
    go_ret
    refine ⟨rfl, ?_⟩
    repeat' first | (with_reducible first | apply zRf | assumption | apply zDn | apply zDr | apply zAl | apply zSt | refine zVi (by assumption) ?_ ?_) | go_size
def paB (m e p n : Int) : Bool := (decide (e = 1) && inB m 0 (n - 1)) || (decide (m = 1) && (inB e 0 (n - 1) && decide (e % p = 0)))
theorem paB_cases (m e p n : Int) : (e = 1 ∧ inB m 0 (n - 1) = true ∧ paB m e p n = true) ∨ (((e = 1 ∧ inB m 0 (n - 1) = false) ∨ e ≠ 1) ∧ ((m ≠ 1 ∧ paB m e p n = false) ∨ (m = 1 ∧ ((inB e 0 (n - 1) = false ∧ paB m e p n = false) ∨ (inB e 0 (n - 1) = true ∧ paB m e p n = decide (e % p = 0)))))) := by
  unfold paB
  cases inB m 0 (n - 1) <;> cases inB e 0 (n - 1) <;> by_cases h : e = 1 <;> by_cases h' : m = 1 <;> simp [h, h']
theorem pa_even {e p : Int} (hp : 2 ≤ p) (h : 0 ≤ e) : (e.tmod p == 0) = decide (e % p = 0) := by
  rw [Int.tmod_eq_emod_of_nonneg h, Bool.eq_iff_iff]; simp
end
section
open Go.RowKit
set_option linter.unusedVariables false
set_option maxHeartbeats 4000000
set_option linter.unusedSimpArgs false
def deB (p k : Int) : Bool := mdPB p && inB k 1 (dp p)
end
end Go.Proofs.Ytnemnkbcbokafaa
