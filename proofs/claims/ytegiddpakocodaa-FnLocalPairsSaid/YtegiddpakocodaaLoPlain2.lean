/- Plain words on primes, depths and powers modulo a number. No program in sight. -/
import Derived.Test.YtegiddpakocodaaLoPlain
namespace Go.Proofs.Ytegiddpakocodaa
open Go.RowKit
set_option linter.unusedVariables false
set_option linter.unusedSimpArgs false
theorem Cg.pow {n a b : Int} (h : Cg n a b) : ∀ k : Nat, Cg n (a ^ k) (b ^ k)
  | 0 => by rw [Int.pow_zero, Int.pow_zero]; exact Cg.refl _ _
  | k + 1 => by rw [Int.pow_succ, Int.pow_succ]; exact (Cg.pow h k).mul h
theorem Cg.symm {n a b : Int} (h : Cg n a b) : Cg n b a := Eq.symm h
theorem Cg.trans {n a b c : Int} (h : Cg n a b) (k : Cg n b c) : Cg n a c := Eq.trans h k
/-! ### powers modulo a number, by halving -/
def pwM (a : Int) (n : Int) (p : Int) : Int := a ^ n.toNat % p
theorem pw_odd {o b p m : Int} (hm : 0 ≤ m) (h : m % 2 = 1) : Cg p ((o * b % p) * (b * b % p) ^ (m / 2).toNat) (o * b ^ m.toNat) := by
  have e : m.toNat = 2 * (m / 2).toNat + 1 := by omega
  rw [e, Int.pow_succ, Int.pow_mul, show b ^ 2 = b * b from by rw [Int.pow_succ, Int.pow_succ]; simp]
  refine ((Cg.mod (Cg.refl p (o * b))).mul (Cg.pow (Cg.mod (Cg.refl p (b * b))) _)).trans ?_
  rw [show o * ((b * b) ^ (m / 2).toNat * b) = o * b * (b * b) ^ (m / 2).toNat by rw [Int.mul_comm ((b * b) ^ _) b, Int.mul_assoc]]
  exact Cg.refl _ _
theorem pw_even {o b p m : Int} (hm : 0 ≤ m) (h : m % 2 = 0) : Cg p (o * (b * b % p) ^ (m / 2).toNat) (o * b ^ m.toNat) := by
  have e : m.toNat = 2 * (m / 2).toNat := by omega
  rw [e, Int.pow_mul, show b ^ 2 = b * b from by rw [Int.pow_succ, Int.pow_succ]; simp]
  exact (Cg.refl _ _).mul (Cg.pow (Cg.mod (Cg.refl p (b * b))) _)
theorem pw_start (a p n : Int) : Cg p ((1 % p) * (a % p) ^ n.toNat) (a ^ n.toNat) := by
  refine ((Cg.mod (Cg.refl p 1)).mul (Cg.pow (Cg.mod (Cg.refl p a)) _)).trans ?_
  rw [Int.one_mul]; exact Cg.refl _ _
theorem pw_start1 (a p n : Int) : Cg p (1 * (a % p) ^ n.toNat) (a ^ n.toNat) := by
  rw [Int.one_mul]; exact Cg.pow (Cg.mod (Cg.refl p a)) _
theorem pw_end {o b p N a : Int} (h : Cg p (o * b ^ (0 : Int).toNat) (a ^ N.toNat)) (h1 : 0 ≤ o) (h2 : o < p) : o = pwM a N p := by
  unfold Cg at h
  rw [show (0 : Int).toNat = 0 from rfl, Int.pow_zero, Int.mul_one, Int.emod_eq_of_lt h1 h2] at h
  exact h
theorem pwM_bd (a n : Int) {p : Int} (hp : 0 < p) : 0 ≤ pwM a n p ∧ pwM a n p < p := ⟨Int.emod_nonneg _ (by omega), Int.emod_lt_of_pos _ hp⟩
theorem tmod_bd' (a m : Int) (hm : 0 < m) : -m < a.tmod m ∧ a.tmod m < m := by
  have h : (a.tmod m).natAbs < m.natAbs := by rw [Int.natAbs_tmod]; exact Nat.mod_lt _ (by omega)
  omega
theorem tmod_twice (a m : Int) (hm : 0 < m) : (a.tmod m + m).tmod m = a % m := by
  have h1 := tmod_bd' a m hm
  rw [Int.tmod_eq_emod_of_nonneg (by omega), Int.add_emod_right, Int.emod_eq_emod_iff_emod_sub_eq_zero]
  have := Int.mul_tdiv_add_tmod a m
  rw [show a.tmod m - a = m * -(a.tdiv m) by rw [Int.mul_neg]; omega]
  exact Int.mul_emod_right _ _
/-! ### primes -/
def primeB (n : Int) : Bool := (List.range n.toNat).all fun e => !(decide (2 ≤ e) && decide ((e : Int) * e ≤ n) && decide (n % e = 0))
theorem primeB_iff {n : Int} (hn : 2 ≤ n) : primeB n = true ↔ ∀ e : Int, 2 ≤ e → e * e ≤ n → n % e ≠ 0 := by
  simp only [primeB, List.all_eq_true, List.mem_range, Bool.not_eq_true', Bool.and_eq_false_iff, decide_eq_false_iff_not]
  constructor
  · intro h e h2 hee hz
    have hlt : e < n := by
      have : 2 * e ≤ e * e := Int.mul_le_mul_of_nonneg_right h2 (by omega)
      omega
    have := h e.toNat (by omega)
    rw [show ((e.toNat : Nat) : Int) = e by omega] at this
    omega
  · intro h e he
    by_cases h2 : 2 ≤ e
    · by_cases hee : (e : Int) * e ≤ n
      · right; exact h e (by omega) hee
      · left; right; exact hee
    · left; left; exact h2
theorem prime_yes {n d : Int} (hn : 2 ≤ n) (hd : 2 ≤ d) (h : ∀ e : Int, 2 ≤ e → e < d → n % e ≠ 0) (hx : ¬ d * d ≤ n) : primeB n = true := by
  rw [primeB_iff hn]
  intro e h2 hee
  refine h e h2 ?_
  rcases Int.lt_or_le e d with x | x
  · exact x
  · exfalso
    have h3 : d * d ≤ e * e := Int.mul_le_mul x x (by omega) (by omega)
    omega
theorem prime_step {n d : Int} (h : ∀ e : Int, 2 ≤ e → e < d → n % e ≠ 0) (hz : n % d ≠ 0) : ∀ e : Int, 2 ≤ e → e < d + 1 → n % e ≠ 0 := by
  intro e h1 h2
  rcases Int.lt_or_le e d with x | x
  · exact h e h1 x
  · have : e = d := by omega
    subst this
    exact hz
theorem prime_no {n d : Int} (hn : 2 ≤ n) (hd : 2 ≤ d) (h : d * d ≤ n) (hx : n % d = 0) : primeB n = false := by
  rw [← Bool.not_eq_true, primeB_iff hn]
  intro hh; exact hh d hd h hx
/-! ### the depth of a prime -/
def dpF : Nat → Int → Int → Nat
  | 0, _, _ => 0
  | f + 1, n, p => if n ≤ 1000000000 then dpF f (n * p) p + 1 else 0
def dp (p : Int) : Nat := dpF 31 p p
theorem dpF_eq {p : Int} (hp : 2 ≤ p) : ∀ (k f j : Nat), k < f → p ^ (j + k) ≤ 1000000000 → 1000000000 < p ^ (j + k + 1) → dpF f (p ^ (j + 1)) p = k
  | k, 0, j, h, _, _ => absurd h (Nat.not_lt_zero _)
  | 0, f + 1, j, _, h1, h2 => by unfold dpF; rw [if_neg (by simpa using h2)]
  | k + 1, f + 1, j, h, h1, h2 => by
    unfold dpF
    have h3 : p ^ (j + 1) ≤ p ^ (j + (k + 1)) := pow_mono' (by omega) (by omega)
    rw [if_pos (by omega), show p ^ (j + 1) * p = p ^ (j + 1 + 1) from (Int.pow_succ _ _).symm, dpF_eq hp k f (j + 1) (by omega) (by rw [show j + 1 + k = j + (k + 1) by omega]; exact h1) (by rw [show j + 1 + k + 1 = j + (k + 1) + 1 by omega]; exact h2)]
theorem two_pow_le (k : Nat) : (k : Int) < 2 ^ k := by
  have := Nat.lt_two_pow_self (n := k)
  exact_mod_cast this
theorem pow_base {p : Int} (hp : 2 ≤ p) : ∀ k : Nat, (2 : Int) ^ k ≤ p ^ k
  | 0 => by simp
  | k + 1 => by
    rw [Int.pow_succ, Int.pow_succ]
    exact Int.mul_le_mul (pow_base hp k) hp (by omega) (by have := pow_pos' (p := p) (by omega) k; omega)
theorem depth_lt {p : Int} (hp : 2 ≤ p) {k : Nat} (h : p ^ k ≤ 1000000000) : k < 31 := by
  rcases Nat.lt_or_ge k 31 with x | x
  · exact x
  · exfalso
    have h1 := pow_base hp k
    have h2 := pow_mono' (p := 2) (by omega) x
    have h3 : (2 : Int) ^ 31 = 2147483648 := by decide
    omega
theorem dp_eq {p : Int} (hp : 2 ≤ p) {k : Nat} (h1 : p ^ k ≤ 1000000000) (h2 : 1000000000 < p ^ (k + 1)) : dp p = k := by
  have := dpF_eq hp k 31 0 (depth_lt hp h1) (by simpa using h1) (by simpa using h2)
  simpa [dp, Int.pow_succ] using this
end Go.Proofs.Ytegiddpakocodaa
