/- Powers, depths, valuations, residues and primes: contracts of both sides. -/
import Derived.Test.YtfbegjiebahdcaaNum
import Derived.Test.YtfbegjiebahdcaaLoPlain2
import Derived.Test.YtfbegjiebahdcaaDrawn
namespace Go.Proofs.Ytfbegjiebahdcaa
open Go.RowKit
set_option linter.unusedVariables false
set_option maxHeartbeats 4000000
set_option linter.unusedSimpArgs false

def PowRel (a k : Int) (i o : Value) : Prop := ∃ j : Nat, (j : Int) ≤ k ∧ i = .int .i64 j ∧ o = .int .i64 (a ^ j)
def PowRelD (a k : Int) (i o : Value) : Prop := ∃ j : Nat, (j : Int) ≤ k ∧ i = .int .i64 (k - j) ∧ o = .int .i64 (a ^ j)
theorem pow_step {a k : Int} {j : Nat} {M : Int} (ha : 1 ≤ a) (hj : (j : Int) < k) (hM : a ^ k.toNat ≤ M) : 1 ≤ a ^ j ∧ a ^ j ≤ M ∧ a ^ j * a = a ^ (j + 1) ∧ a ^ (j + 1) ≤ M ∧ 1 ≤ a ^ (j + 1) :=
  ⟨pow_pos' ha j, by have := pow_mono' (p := a) ha (m := j) (n := k.toNat) (by omega); omega, (Int.pow_succ _ _).symm, by have := pow_mono' (p := a) ha (m := j + 1) (n := k.toNat) (by omega); omega, pow_pos' ha (j + 1)⟩
theorem intPower_any (a k : Int) (w : World) (ha : 1 ≤ a) (hk : 0 ≤ k) (hk2 : k ≤ 1000000) (hM : a ^ k.toNat ≤ 1000000000000000) :
    Calls Try.prog 62 #[.int .i64 a, .int .i64 k] w fun e w' => e = .returned (.int .i64 (a ^ k.toNat)) ∧ w = w' := by
  have HM := Lib.hid hM
  clear hM
  go_enter Try.func62, Try.ntmps62
  go_wp2
  go_loop [5, 7] (fun o i => PowRel a k i o) (fun _ i => (k - intOf i).toNat)
  case atStart => exact ⟨0, by omega, rfl, by simp⟩
  case round =>
    obtain ⟨j, hj, rfl, rfl⟩ := hrel
    by_cases hlt : (j : Int) < k
    · have hs := pow_step ha hlt HM.out
      have HE := Lib.hid hs.2.2.1
      have hs1 := hs.1
      have hs2 := hs.2.1
      have hs3 := hs.2.2.2.1
      have hs4 := hs.2.2.2.2
      rw [← HE.out] at hs3 hs4
      clear hs
      generalize hq : a ^ j = q at *
      have HQ := Lib.hid hq
      clear hq
      go_wp2
      go_round
      case rel => exact ⟨j + 1, by omega, by go_num, by rw [HE.out]⟩
      case measure => simp [intOf]; omega
    · have : (j : Int) = k := by omega
      subst this
      go_wp2
      go_ret
      exact ⟨by simp, rfl⟩
def DpRel (p : Int) (s : Nat) (k n : Value) : Prop := ∃ j : Nat, k = .int .i64 j ∧ n = .int .i64 (p ^ (j + s)) ∧ p ^ j ≤ 1000000000
def VlRel (a p : Int) (x n : Value) : Prop := ∃ y : Int, ∃ j : Nat, x = .int .i64 y ∧ n = .int .i64 j ∧ y ≠ 0 ∧ y.natAbs ≤ a.natAbs ∧ a = y * p ^ j ∧ j + y.natAbs ≤ a.natAbs
theorem vl_round {a p y : Int} {j : Nat} (hp : 2 ≤ p) (hy : y ≠ 0) (h : a = y * p ^ j) (hb : j + y.natAbs ≤ a.natAbs) (hz : y.tmod p = 0) :
    y.tdiv p ≠ 0 ∧ (y.tdiv p).natAbs < y.natAbs ∧ a = y.tdiv p * p ^ (j + 1) ∧ (j + 1) + (y.tdiv p).natAbs ≤ a.natAbs := by
  have h1 : y % p = 0 := Int.emod_eq_zero_of_dvd (Int.dvd_of_tmod_eq_zero hz)
  have h2 : y.tdiv p = y / p := Int.tdiv_eq_ediv_of_dvd (Int.dvd_of_tmod_eq_zero hz)
  have h3 := natAbs_ediv_lt hy hp h1
  rw [h2]
  refine ⟨h3.2, h3.1, ?_, by omega⟩
  rw [Int.pow_succ, Int.mul_comm (p ^ j) p, ← Int.mul_assoc, Int.ediv_mul_cancel (Int.dvd_of_emod_eq_zero h1), ← h]
theorem vl_stop {a p y : Int} {j : Nat} (hp : 2 ≤ p) (hy : y ≠ 0) (ha : a ≠ 0) (h : a = y * p ^ j) (hz : y.tmod p ≠ 0) : vl a p = j :=
  vl_eq hp ha h (fun e => hz (Int.tmod_eq_zero_of_dvd (Int.dvd_of_emod_eq_zero e)))
def PrRel (n : Int) (x : Value) : Prop := ∃ d : Int, x = .int .i64 d ∧ 2 ≤ d ∧ d ≤ n + 1 ∧ ∀ e : Int, 2 ≤ e → e < d → n % e ≠ 0
end Go.Proofs.Ytfbegjiebahdcaa
