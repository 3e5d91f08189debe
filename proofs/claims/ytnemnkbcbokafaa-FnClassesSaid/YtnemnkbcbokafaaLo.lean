/- Powers, depths, valuations, residues and primes: contracts of both sides. -/
import Derived.Test.YtnemnkbcbokafaaNum
import Derived.Test.YtnemnkbcbokafaaPln
import Derived.Test.YtnemnkbcbokafaaDrA
namespace Go.Proofs.Ytnemnkbcbokafaa
open Go.RowKit
set_option linter.unusedVariables false
set_option maxHeartbeats 4000000
set_option linter.unusedSimpArgs false

def PowRel (a k : Int) (i o : Value) : Prop := ∃ j : Nat, (j : Int) ≤ k ∧ i = .int .i64 j ∧ o = .int .i64 (a ^ j)
def PowRelD (a k : Int) (i o : Value) : Prop := ∃ j : Nat, (j : Int) ≤ k ∧ i = .int .i64 (k - j) ∧ o = .int .i64 (a ^ j)
theorem pow_step {a k : Int} {j : Nat} {M : Int} (ha : 1 ≤ a) (hj : (j : Int) < k) (hM : a ^ k.toNat ≤ M) : 1 ≤ a ^ j ∧ a ^ j ≤ M ∧ a ^ j * a = a ^ (j + 1) ∧ a ^ (j + 1) ≤ M ∧ 1 ≤ a ^ (j + 1) :=
  ⟨pow_pos' ha j, by have := pow_mono' (p := a) ha (m := j) (n := k.toNat) (by omega); omega, (Int.pow_succ _ _).symm, by have := pow_mono' (p := a) ha (m := j + 1) (n := k.toNat) (by omega); omega, pow_pos' ha (j + 1)⟩
def DpRel (p : Int) (s : Nat) (k n : Value) : Prop := ∃ j : Nat, k = .int .i64 j ∧ n = .int .i64 (p ^ (j + s)) ∧ p ^ j ≤ 1000000000
def VlRel (a p : Int) (x n : Value) : Prop := ∃ y : Int, ∃ j : Nat, x = .int .i64 y ∧ n = .int .i64 j ∧ y ≠ 0 ∧ y.natAbs ≤ a.natAbs ∧ a = y * p ^ j ∧ j + y.natAbs ≤ a.natAbs
theorem vl_round {a p y : Int} {j : Nat} (hp : 2 ≤ p) (hy : y ≠ 0) (h : a = y * p ^ j) (hb : j + y.natAbs ≤ a.natAbs) (hz : y.tmod p = 0) :
    y.tdiv p ≠ 0 ∧ (y.tdiv p).natAbs < y.natAbs ∧ a = y.tdiv p * p ^ (j + 1) ∧ (j + 1) + (y.tdiv p).natAbs ≤ a.natAbs := by
  have h1 : y % p = 0 := Int.emod_eq_zero_of_dvd (Int.dvd_of_tmod_eq_zero hz)
  have h2 : y.tdiv p = y / p := Int.tdiv_eq_ediv_of_dvd (Int.dvd_of_tmod_eq_zero hz)
  have h3 := natAbs_ediv_lt hy hp h1
  rw [h2]
  refine ⟨h3.2, h3.1, ?_, by omega⟩
  rw [Int.pow_succ, Int.mul_comm (p ^ j) p, ← Int.mul_assoc, Int.ediv_mul_cancel (Int.dvd_of_emod_eq_zero h1), ← h]
theorem vl_stop {a p y : Int} {j : Nat} (hp : 2 ≤ p) (hy : y ≠ 0) (ha : a ≠ 0) (h : a = y * p ^ j) (hz : y.tmod p ≠ 0) : vl a p = j :=
  vl_eq hp ha h (fun e => hz (Int.tmod_eq_zero_of_dvd (Int.dvd_of_emod_eq_zero e)))
theorem valuation_any (a p : Int) (w : World) (hp : 2 ≤ p) (hp2 : p ≤ 9223372036854775807) (ha : a ≠ 0) (h1 : -9223372036854775807 ≤ a) (h2 : a ≤ 9223372036854775807) :
    Calls Try.prog 58 #[.int .i64 a, .int .i64 p] w fun e w' => e = .returned (.int .i64 (vl a p : Int)) ∧ w = w' := by
  have HA := Lib.hid ha
  clear ha
  go_enter Try.func58, Try.ntmps58
  go_wp2
  go_loop [0, 5] (fun x n => VlRel a p x n) (fun x _ => (intOf x).natAbs)
  case atStart => exact ⟨a, 0, rfl, rfl, HA.out, Nat.le_refl _, by simp, by omega⟩
  case round =>
    obtain ⟨y, j, rfl, rfl, hy, hya, he, hja⟩ := hrel
    by_cases hz : y.tmod p = 0
    · have hr := vl_round hp hy he hja hz
      have HR := Lib.hid hr
      have hr2 := hr.2.1
      have hz' : (y.tmod p == 0) = true := by simp [hz]
      have hq := tdiv_bd y p
      clear hr hz he
      go_wp2
      go_round
      case rel => exact ⟨y.tdiv p, j + 1, rfl, by go_num, HR.out.1, by omega, HR.out.2.2.1, HR.out.2.2.2⟩
      case measure => simpa [intOf] using hr2
    · have HV := Lib.hid (vl_stop hp hy HA.out he hz)
      have hz' : (y.tmod p == 0) = false := by simp [hz]
      clear hz he
      go_wp2
      go_ret
      exact ⟨by rw [HV.out]; rfl, rfl⟩
theorem mdValuation_any (a p : Int) (w : World) (hp : 2 ≤ p) (hp2 : p ≤ 9223372036854775807) (ha : a ≠ 0) (h1 : -9223372036854775807 ≤ a) (h2 : a ≤ 9223372036854775807) :
    Calls Try.prog 74 #[.int .i64 a, .int .i64 p] w fun e w' => e = .returned (.int .i64 (vl a p : Int)) ∧ w = w' := by
  have HA := Lib.hid ha
  clear ha
  go_enter Try.func74, Try.ntmps74
  go_wp2
  go_loop [0, 5] (fun x n => VlRel a p x n) (fun x _ => (intOf x).natAbs)
  case atStart => exact ⟨a, 0, rfl, rfl, HA.out, Nat.le_refl _, by simp, by omega⟩
  case round =>
    obtain ⟨y, j, rfl, rfl, hy, hya, he, hja⟩ := hrel
    by_cases hz : y.tmod p = 0
    · have hr := vl_round hp hy he hja hz
      have HR := Lib.hid hr
      have hr2 := hr.2.1
      have hz' : (y.tmod p == 0) = true := by simp [hz]
      have hq := tdiv_bd y p
      clear hr hz he
      go_wp2
      go_round
      case rel => exact ⟨y.tdiv p, j + 1, rfl, by go_num, HR.out.1, by omega, HR.out.2.2.1, HR.out.2.2.2⟩
      case measure => simpa [intOf] using hr2
    · have HV := Lib.hid (vl_stop hp hy HA.out he hz)
      have hz' : (y.tmod p == 0) = false := by simp [hz]
      clear hz he
      go_wp2
      go_ret
      exact ⟨by rw [HV.out]; rfl, rfl⟩
def PrRel (n : Int) (x : Value) : Prop := ∃ d : Int, x = .int .i64 d ∧ 2 ≤ d ∧ d ≤ n + 1 ∧ ∀ e : Int, 2 ≤ e → e < d → n % e ≠ 0
def mdPB (n : Int) : Bool := inB n 2 997 && primeB n
end Go.Proofs.Ytnemnkbcbokafaa
