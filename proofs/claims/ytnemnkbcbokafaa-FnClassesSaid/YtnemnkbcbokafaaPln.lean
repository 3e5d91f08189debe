/- Parts: Plain words on residues, powers of primes and pairs that lift. No program in sight, Plain words on primes, depths and powers modulo a number. No program in sight, Plain words: the primes that divide a number, as both texts find them; numbers put into an increasing list. No program in sight, Plain words: the squarefree divisors of a number, as both texts make them. No program in sight, Plain words: pairs that are possible modulo growing powers of a prime, level after level, and all at once. No program in sight, Plain words: how many pairs are possible, counted one by one. No program in sight, Plain words: the first pair that lifts, level after level; the least number that lifts, digit after digit. No program in sight, Plain words: a solution in integers shows at the primes 2, 3 and 5, and makes a real point; what a pair that lifts is. No program in sight, Plain words: squarefree parts and squarefree divisors of a number: what is left is a square; the class of a quotient. No program in sight. -/
import Derived.Test.YtnemnkbcbokafaaBase
namespace Go.Proofs.Ytnemnkbcbokafaa
section
open Go.RowKit
set_option linter.unusedVariables false
set_option linter.unusedSimpArgs false

/-! ### how often a number divides -/
def vlF : Nat → Int → Int → Nat
  | 0, _, _ => 0
  | f + 1, a, p => if a % p = 0 then vlF f (a / p) p + 1 else 0
def vl (a p : Int) : Nat := vlF a.natAbs a p
theorem natAbs_ediv_lt {a p : Int} (ha : a ≠ 0) (hp : 2 ≤ p) (h : a % p = 0) : (a / p).natAbs < a.natAbs ∧ a / p ≠ 0 := by
  have h1 : a / p * p = a := Int.ediv_mul_cancel (Int.dvd_of_emod_eq_zero h)
  generalize a / p = q at h1
  subst h1
  have hq : q ≠ 0 := by intro e; subst e; simp at ha
  refine ⟨?_, hq⟩
  rw [Int.natAbs_mul]
  have : 0 < q.natAbs := by omega
  have h2 : q.natAbs * 2 ≤ q.natAbs * p.natAbs := Nat.mul_le_mul_left _ (by omega)
  omega
theorem vlF_spec {p : Int} (hp : 2 ≤ p) : ∀ (f : Nat) (a : Int), a ≠ 0 → a.natAbs ≤ f → ∃ u, a = u * p ^ vlF f a p ∧ u % p ≠ 0
  | 0, a, ha, hf => by omega
  | f + 1, a, ha, hf => by
    unfold vlF
    split
    · rename_i h
      have h2 := natAbs_ediv_lt ha hp h
      obtain ⟨u, hu, hu2⟩ := vlF_spec hp f (a / p) h2.2 (by omega)
      refine ⟨u, ?_, hu2⟩
      rw [Int.pow_succ, ← Int.mul_assoc, ← hu, Int.ediv_mul_cancel (Int.dvd_of_emod_eq_zero h)]
    · rename_i h
      exact ⟨a, by simp, h⟩
theorem vl_spec {a p : Int} (hp : 2 ≤ p) (ha : a ≠ 0) : ∃ u, a = u * p ^ vl a p ∧ u % p ≠ 0 := vlF_spec hp _ a ha (Nat.le_refl _)
theorem vlF_eq {p : Int} (hp : 2 ≤ p) : ∀ (n f : Nat) (a u : Int), a ≠ 0 → a.natAbs ≤ f → a = u * p ^ n → u % p ≠ 0 → vlF f a p = n
  | n, 0, a, u, ha, hf, _, _ => by omega
  | 0, f + 1, a, u, ha, hf, h, hu => by
    simp at h; subst h
    simp [vlF, hu]
  | n + 1, f + 1, a, u, ha, hf, h, hu => by
    have h1 : a = (u * p ^ n) * p := by rw [h, Int.pow_succ]; rw [Int.mul_assoc]
    have h2 : a % p = 0 := by rw [h1]; exact Int.mul_emod_left _ _
    have h3 : a / p = u * p ^ n := by rw [h1]; exact Int.mul_ediv_cancel _ (by omega)
    have h4 := natAbs_ediv_lt ha hp h2
    unfold vlF
    rw [if_pos h2, vlF_eq hp n f (a / p) u h4.2 (by omega) h3 hu]
theorem vl_eq {p a u : Int} {n : Nat} (hp : 2 ≤ p) (ha : a ≠ 0) (h : a = u * p ^ n) (hu : u % p ≠ 0) : vl a p = n := vlF_eq hp n _ a u ha (Nat.le_refl _) h hu
theorem pow_pos' {p : Int} (hp : 1 ≤ p) (n : Nat) : 1 ≤ p ^ n := by
  have := Int.pow_pos (m := n) (show 0 < p by omega); omega
theorem pow_mono' {p : Int} (hp : 1 ≤ p) {m n : Nat} (h : m ≤ n) : p ^ m ≤ p ^ n := by
  obtain ⟨d, rfl⟩ := Nat.exists_eq_add_of_le h
  rw [Int.pow_add]
  have h1 := pow_pos' hp m
  have h2 := pow_pos' hp d
  have := Int.mul_le_mul_of_nonneg_left h2 (show 0 ≤ p ^ m by omega)
  omega
/-- a residue that is not 0 has fewer factors than the modulus -/
theorem vl_lt {a p : Int} {k : Nat} (hp : 2 ≤ p) (h1 : 0 < a) (h2 : a < p ^ k) : vl a p < k := by
  obtain ⟨u, hu, _⟩ := vl_spec hp (show a ≠ 0 by omega)
  rcases Nat.lt_or_ge (vl a p) k with h | h
  · exact h
  · exfalso
    have h3 := pow_mono' (p := p) (by omega) h
    have h4 : 0 < u := by
      rcases Int.lt_or_le 0 u with x | x
      · exact x
      · have h5 := pow_pos' (p := p) (by omega) (vl a p)
        have := Int.mul_nonpos_of_nonpos_of_nonneg x (show 0 ≤ p ^ vl a p by omega)
        omega
    have h5 : 1 * p ^ vl a p ≤ u * p ^ vl a p := Int.mul_le_mul_of_nonneg_right (by omega) (by have := pow_pos' (p := p) (by omega) (vl a p); omega)
    omega
theorem vl_div {a p : Int} (hp : 2 ≤ p) (ha : a ≠ 0) : a = (a / p ^ vl a p) * p ^ vl a p ∧ (a / p ^ vl a p) % p ≠ 0 := by
  obtain ⟨u, hu, hu2⟩ := vl_spec hp ha
  have h1 := pow_pos' (p := p) (by omega) (vl a p)
  have : a / p ^ vl a p = u := by
    conv => lhs; arg 1; rw [hu]
    exact Int.mul_ediv_cancel _ (by omega)
  rw [this]; exact ⟨hu, hu2⟩

/-! ### squares modulo a power of a prime -/
def symB (a p : Int) : Bool := decide (a ^ ((p - 1) / 2).toNat % p = 1)
def sqLo (n p : Int) (k : Nat) : Bool := if n = 0 then true else if vl n p % 2 = 1 then false else if 2 < p then symB (n / p ^ vl n p) p else decide ((n / p ^ vl n p) % 2 ^ (min 3 (k - vl n p)) = 1)
def oft (n p : Int) (k : Nat) : Nat := if n = 0 then k else min k (vl n p)
theorem oft_zero (p : Int) (k : Nat) : oft 0 p k = k := by simp [oft]
theorem oft_pos {n p : Int} {k : Nat} (hp : 2 ≤ p) (h1 : 0 < n) (h2 : n < p ^ k) : oft n p k = vl n p := by
  have := vl_lt hp h1 h2
  unfold oft; rw [if_neg (by omega)]; omega
def vaM (d a c m e n : Int) : Int := (d * m * m * m * m + a * m * m * e * e + c * e * e * e * e) % n
def dmM (d a m e n : Int) : Int := (4 * d * m * m * m + 2 * a * m * e * e) % n
def deM (a c m e n : Int) : Int := (2 * a * m * m * e + 4 * c * e * e * e) % n
def poB (d a c m e p : Int) (k : Nat) : Bool := sqLo (vaM d a c m e (p ^ k)) p k
def hlf (v p : Int) : Nat := vl v p / 2 + if p = 2 then 1 else 0
def liW (d a c m e p : Int) (k : Nat) : Nat :=
  let w := min (oft (dmM d a m e (p ^ k)) p k) (oft (deM a c m e (p ^ k)) p k)
  if vaM d a c m e (p ^ k) = 0 then w else min w (hlf (vaM d a c m e (p ^ k)) p)
def liB (d a c m e p : Int) (k : Nat) : Bool := poB d a c m e p k && decide (2 * liW d a c m e p k + 1 ≤ k)

/-! ### congruences -/
def Cg (n a b : Int) : Prop := a % n = b % n
theorem Cg.refl (n a : Int) : Cg n a a := rfl
theorem Cg.add {n a b c d : Int} (h1 : Cg n a b) (h2 : Cg n c d) : Cg n (a + c) (b + d) := by unfold Cg at *; rw [Int.add_emod, h1, h2, ← Int.add_emod]
theorem Cg.mul {n a b c d : Int} (h1 : Cg n a b) (h2 : Cg n c d) : Cg n (a * c) (b * d) := by unfold Cg at *; rw [Int.mul_emod, h1, h2, ← Int.mul_emod]
theorem Cg.mod {n a b : Int} (h : Cg n a b) : Cg n (a % n) b := by unfold Cg at *; rw [Int.emod_emod, h]
theorem Cg.to {n a b c : Int} (h : Cg n a b) (e : b = c) : a % n = c % n := by subst e; exact h
theorem va_spec (D A C m e n : Int) : ((D % n) * ((m * m % n) * (m * m % n) % n) % n + (A % n) * ((m * m % n) * (e * e % n) % n) % n + (C % n) * ((e * e % n) * (e * e % n) % n) % n) % n = vaM D A C m e n := by
  unfold vaM
  refine Cg.to (b := D * (m * m * (m * m)) + A * (m * m * (e * e)) + C * (e * e * (e * e))) ?_ (by grind)
  repeat (first | exact Cg.refl _ _ | apply Cg.mod | apply Cg.add | apply Cg.mul)
theorem dm_spec (D A m e n : Int) : (4 * ((D % n) * ((m * m % n) * m % n) % n) + 2 * ((A % n) * (m * (e * e % n) % n) % n)) % n = dmM D A m e n := by
  unfold dmM
  refine Cg.to (b := 4 * (D * (m * m * m)) + 2 * (A * (m * (e * e)))) ?_ (by grind)
  repeat (first | exact Cg.refl _ _ | apply Cg.mod | apply Cg.add | apply Cg.mul)
theorem de_spec (A C m e n : Int) : (2 * ((A % n) * ((m * m % n) * e % n) % n) + 4 * ((C % n) * ((e * e % n) * e % n) % n)) % n = deM A C m e n := by
  unfold deM
  refine Cg.to (b := 2 * (A * (m * m * e)) + 4 * (C * (e * e * e))) ?_ (by grind)
  repeat (first | exact Cg.refl _ _ | apply Cg.mod | apply Cg.add | apply Cg.mul)
/-- the product of numbers modulo n -/
def prM (zs : List Int) (n : Int) : Int := zs.foldl (fun o x => o * x) 1 % n
theorem va_impl (D A C m e n : Int) : (prM [D, m, m, m, m] n + prM [A, m, m, e, e] n + prM [C, e, e, e, e] n) % n = vaM D A C m e n := by
  unfold vaM prM
  refine Cg.to (b := D * m * m * m * m + A * m * m * e * e + C * e * e * e * e) ?_ rfl
  simp only [List.foldl, Int.one_mul]
  repeat (first | exact Cg.refl _ _ | apply Cg.mod | apply Cg.add | apply Cg.mul)
theorem dm_impl (D A m e n : Int) : (prM [4, D, m, m, m] n + prM [2, A, m, e, e] n) % n = dmM D A m e n := by
  unfold dmM prM
  refine Cg.to (b := 4 * D * m * m * m + 2 * A * m * e * e) ?_ rfl
  simp only [List.foldl, Int.one_mul]
  repeat (first | exact Cg.refl _ _ | apply Cg.mod | apply Cg.add | apply Cg.mul)
theorem de_impl (A C m e n : Int) : (prM [2, A, m, m, e] n + prM [4, C, e, e, e] n) % n = deM A C m e n := by
  unfold deM prM
  refine Cg.to (b := 2 * A * m * m * e + 4 * C * e * e * e) ?_ rfl
  simp only [List.foldl, Int.one_mul]
  repeat (first | exact Cg.refl _ _ | apply Cg.mod | apply Cg.add | apply Cg.mul)
theorem prM_take (zs : List Int) (n : Int) (k : Nat) (h : k < zs.length) : prM (zs.take (k + 1)) n = prM (zs.take k) n * (zs[k] % n) % n := by
  unfold prM
  rw [List.take_succ_eq_append_getElem h, List.foldl_append]
  simp only [List.foldl]
  have := Cg.mul (Cg.mod (Cg.refl n (List.foldl (fun o x => o * x) 1 (List.take k zs)))) (Cg.mod (Cg.refl n zs[k]))
  exact this.symm
theorem prM_bd (zs : List Int) {n : Int} (h : 0 < n) : 0 ≤ prM zs n ∧ prM zs n < n := ⟨Int.emod_nonneg _ (by omega), Int.emod_lt_of_pos _ h⟩
end
section
open Go.RowKit
set_option linter.unusedVariables false
set_option linter.unusedSimpArgs false
theorem Cg.pow {n a b : Int} (h : Cg n a b) : ∀ k : Nat, Cg n (a ^ k) (b ^ k)
  | 0 => by rw [Int.pow_zero, Int.pow_zero]; exact Cg.refl _ _
  | k + 1 => by rw [Int.pow_succ, Int.pow_succ]; exact (Cg.pow h k).mul h
theorem Cg.symm {n a b : Int} (h : Cg n a b) : Cg n b a := Eq.symm h
theorem Cg.trans {n a b c : Int} (h : Cg n a b) (k : Cg n b c) : Cg n a c := Eq.trans h k
/-! ### powers modulo a number, by halving -/
def pwM (a : Int) (n : Int) (p : Int) : Int := a ^ n.toNat % p
theorem pw_odd {o b p m : Int} (hm : 0 ≤ m) (h : m % 2 = 1) : Cg p ((o * b % p) * (b * b % p) ^ (m / 2).toNat) (o * b ^ m.toNat) := by
  have e : m.toNat = 2 * (m / 2).toNat + 1 := by omega
  rw [e, Int.pow_succ, Int.pow_mul, show b ^ 2 = b * b from by rw [Int.pow_succ, Int.pow_succ]; simp]
  refine ((Cg.mod (Cg.refl p (o * b))).mul (Cg.pow (Cg.mod (Cg.refl p (b * b))) _)).trans ?_
  rw [show o * ((b * b) ^ (m / 2).toNat * b) = o * b * (b * b) ^ (m / 2).toNat by rw [Int.mul_comm ((b * b) ^ _) b, Int.mul_assoc]]
  exact Cg.refl _ _
theorem pw_even {o b p m : Int} (hm : 0 ≤ m) (h : m % 2 = 0) : Cg p (o * (b * b % p) ^ (m / 2).toNat) (o * b ^ m.toNat) := by
  have e : m.toNat = 2 * (m / 2).toNat := by omega
  rw [e, Int.pow_mul, show b ^ 2 = b * b from by rw [Int.pow_succ, Int.pow_succ]; simp]
  exact (Cg.refl _ _).mul (Cg.pow (Cg.mod (Cg.refl p (b * b))) _)
theorem pw_start (a p n : Int) : Cg p ((1 % p) * (a % p) ^ n.toNat) (a ^ n.toNat) := by
  refine ((Cg.mod (Cg.refl p 1)).mul (Cg.pow (Cg.mod (Cg.refl p a)) _)).trans ?_
  rw [Int.one_mul]; exact Cg.refl _ _
theorem pw_start1 (a p n : Int) : Cg p (1 * (a % p) ^ n.toNat) (a ^ n.toNat) := by
  rw [Int.one_mul]; exact Cg.pow (Cg.mod (Cg.refl p a)) _
theorem pw_end {o b p N a : Int} (h : Cg p (o * b ^ (0 : Int).toNat) (a ^ N.toNat)) (h1 : 0 ≤ o) (h2 : o < p) : o = pwM a N p := by
  unfold Cg at h
  rw [show (0 : Int).toNat = 0 from rfl, Int.pow_zero, Int.mul_one, Int.emod_eq_of_lt h1 h2] at h
  exact h
theorem pwM_bd (a n : Int) {p : Int} (hp : 0 < p) : 0 ≤ pwM a n p ∧ pwM a n p < p := ⟨Int.emod_nonneg _ (by omega), Int.emod_lt_of_pos _ hp⟩
theorem tmod_bd' (a m : Int) (hm : 0 < m) : -m < a.tmod m ∧ a.tmod m < m := by
  have h : (a.tmod m).natAbs < m.natAbs := by rw [Int.natAbs_tmod]; exact Nat.mod_lt _ (by omega)
  omega
theorem tmod_twice (a m : Int) (hm : 0 < m) : (a.tmod m + m).tmod m = a % m := by
  have h1 := tmod_bd' a m hm
  rw [Int.tmod_eq_emod_of_nonneg (by omega), Int.add_emod_right, Int.emod_eq_emod_iff_emod_sub_eq_zero]
  have := Int.mul_tdiv_add_tmod a m
  rw [show a.tmod m - a = m * -(a.tdiv m) by rw [Int.mul_neg]; omega]
  exact Int.mul_emod_right _ _
/-! ### primes -/
def primeB (n : Int) : Bool := (List.range n.toNat).all fun e => !(decide (2 ≤ e) && decide ((e : Int) * e ≤ n) && decide (n % e = 0))
theorem primeB_iff {n : Int} (hn : 2 ≤ n) : primeB n = true ↔ ∀ e : Int, 2 ≤ e → e * e ≤ n → n % e ≠ 0 := by
  simp only [primeB, List.all_eq_true, List.mem_range, Bool.not_eq_true', Bool.and_eq_false_iff, decide_eq_false_iff_not]
  constructor
  · intro h e h2 hee hz
    have hlt : e < n := by
      have : 2 * e ≤ e * e := Int.mul_le_mul_of_nonneg_right h2 (by omega)
      omega
    have := h e.toNat (by omega)
    rw [show ((e.toNat : Nat) : Int) = e by omega] at this
    omega
  · intro h e he
    by_cases h2 : 2 ≤ e
    · by_cases hee : (e : Int) * e ≤ n
      · right; exact h e (by omega) hee
      · left; right; exact hee
    · left; left; exact h2
theorem prime_yes {n d : Int} (hn : 2 ≤ n) (hd : 2 ≤ d) (h : ∀ e : Int, 2 ≤ e → e < d → n % e ≠ 0) (hx : ¬ d * d ≤ n) : primeB n = true := by
  rw [primeB_iff hn]
  intro e h2 hee
  refine h e h2 ?_
  rcases Int.lt_or_le e d with x | x
  · exact x
  · exfalso
    have h3 : d * d ≤ e * e := Int.mul_le_mul x x (by omega) (by omega)
    omega
theorem prime_step {n d : Int} (h : ∀ e : Int, 2 ≤ e → e < d → n % e ≠ 0) (hz : n % d ≠ 0) : ∀ e : Int, 2 ≤ e → e < d + 1 → n % e ≠ 0 := by
  intro e h1 h2
  rcases Int.lt_or_le e d with x | x
  · exact h e h1 x
  · have : e = d := by omega
    subst this
    exact hz
theorem prime_no {n d : Int} (hn : 2 ≤ n) (hd : 2 ≤ d) (h : d * d ≤ n) (hx : n % d = 0) : primeB n = false := by
  rw [← Bool.not_eq_true, primeB_iff hn]
  intro hh; exact hh d hd h hx
/-! ### the depth of a prime -/
def dpF : Nat → Int → Int → Nat
  | 0, _, _ => 0
  | f + 1, n, p => if n ≤ 1000000000 then dpF f (n * p) p + 1 else 0
def dp (p : Int) : Nat := dpF 31 p p
theorem dpF_eq {p : Int} (hp : 2 ≤ p) : ∀ (k f j : Nat), k < f → p ^ (j + k) ≤ 1000000000 → 1000000000 < p ^ (j + k + 1) → dpF f (p ^ (j + 1)) p = k
  | k, 0, j, h, _, _ => absurd h (Nat.not_lt_zero _)
  | 0, f + 1, j, _, h1, h2 => by unfold dpF; rw [if_neg (by simpa using h2)]
  | k + 1, f + 1, j, h, h1, h2 => by
    unfold dpF
    have h3 : p ^ (j + 1) ≤ p ^ (j + (k + 1)) := pow_mono' (by omega) (by omega)
    rw [if_pos (by omega), show p ^ (j + 1) * p = p ^ (j + 1 + 1) from (Int.pow_succ _ _).symm, dpF_eq hp k f (j + 1) (by omega) (by rw [show j + 1 + k = j + (k + 1) by omega]; exact h1) (by rw [show j + 1 + k + 1 = j + (k + 1) + 1 by omega]; exact h2)]
theorem two_pow_le (k : Nat) : (k : Int) < 2 ^ k := by
  have := Nat.lt_two_pow_self (n := k)
  exact_mod_cast this
theorem pow_base {p : Int} (hp : 2 ≤ p) : ∀ k : Nat, (2 : Int) ^ k ≤ p ^ k
  | 0 => by simp
  | k + 1 => by
    rw [Int.pow_succ, Int.pow_succ]
    exact Int.mul_le_mul (pow_base hp k) hp (by omega) (by have := pow_pos' (p := p) (by omega) k; omega)
theorem depth_lt {p : Int} (hp : 2 ≤ p) {k : Nat} (h : p ^ k ≤ 1000000000) : k < 31 := by
  rcases Nat.lt_or_ge k 31 with x | x
  · exact x
  · exfalso
    have h1 := pow_base hp k
    have h2 := pow_mono' (p := 2) (by omega) x
    have h3 : (2 : Int) ^ 31 = 2147483648 := by decide
    omega
theorem dp_eq {p : Int} (hp : 2 ≤ p) {k : Nat} (h1 : p ^ k ≤ 1000000000) (h2 : 1000000000 < p ^ (k + 1)) : dp p = k := by
  have := dpF_eq hp k 31 0 (depth_lt hp h1) (by simpa using h1) (by simpa using h2)
  simpa [dp, Int.pow_succ] using this
end
section
open Go.RowKit
set_option linter.unusedVariables false
set_option linter.unusedSimpArgs false
def msP (n p : Int) : Nat := if 1 < n then (n + 1 - p).toNat + 1 else 0
/-- what is left of n behind all divisions by q -/
def strip (n q : Int) : Int := n / q ^ vl n q
theorem strip_le {n q : Int} (hn : 1 ≤ n) (hq : 2 ≤ q) : 1 ≤ strip n q ∧ strip n q ≤ n := by
  unfold strip
  have h := (vl_div hq (show n ≠ 0 by omega)).1
  have hp := pow_pos' (p := q) (by omega) (vl n q)
  have h1 : n / q ^ vl n q ≤ n := Int.ediv_le_self _ (by omega)
  refine ⟨?_, h1⟩
  rcases Int.lt_or_le (n / q ^ vl n q) 1 with h2 | h2
  · have : n / q ^ vl n q * q ^ vl n q ≤ 0 := Int.mul_nonpos_of_nonpos_of_nonneg (by omega) (by omega)
    omega
  · exact h2
theorem prW_dec {n m p : Int} (h : 1 < n ∧ 2 ≤ p) (h2 : ¬ n < p * p) (hm : m ≤ n) : msP m (p + 1) < msP n p := by
  have h3 : p * 2 ≤ p * p := Int.mul_le_mul_of_nonneg_left h.2 (by omega)
  unfold msP
  rw [if_pos h.1]
  split <;> omega
def prW (n p : Int) : List Int :=
  if h : 1 < n ∧ 2 ≤ p then
    if h2 : n < p * p then [n]
    else if n % p = 0 then p :: prW (strip n p) (p + 1) else prW n (p + 1)
  else []
  termination_by msP n p
  decreasing_by
    · exact prW_dec h h2 (strip_le (by omega) h.2).2
    · exact prW_dec h h2 (by omega)
/-- the number that a round divides by -/
def prQ (n p : Int) : Int := if n < p * p then n else p
theorem prW_none {n p : Int} (h : ¬ 1 < n) : prW n p = [] := by rw [prW, dif_neg (fun q => h q.1)]
theorem vl_self {n : Int} (h : 2 ≤ n) : vl n n = 1 := vl_eq (u := 1) (n := 1) h (by omega) (by rw [Int.pow_succ, Int.pow_zero]; omega) (by rw [Int.emod_eq_of_lt (by omega) (by omega)]; omega)
theorem strip_self {n : Int} (h : 2 ≤ n) : strip n n = 1 := by
  unfold strip
  rw [vl_self h, Int.pow_succ, Int.pow_zero, Int.one_mul]; exact Int.ediv_self (by omega)
theorem prQ_bd {n p : Int} (h : 1 < n) (hp : 2 ≤ p) : 2 ≤ prQ n p ∧ prQ n p ≤ n := by
  unfold prQ
  split
  · omega
  · have : p * 2 ≤ p * p := Int.mul_le_mul_of_nonneg_left hp (by omega)
    omega
theorem prW_hit {n p : Int} (h : 1 < n) (hp : 2 ≤ p) (hz : n % prQ n p = 0) : prW n p = prQ n p :: prW (strip n (prQ n p)) (prQ n p + 1) := by
  unfold prQ at hz ⊢
  rw [prW, dif_pos ⟨h, hp⟩]
  by_cases h2 : n < p * p
  · rw [dif_pos h2, if_pos h2, strip_self (by omega), prW_none (by omega)]
  · rw [if_neg h2] at hz
    rw [dif_neg h2, if_neg h2, if_pos hz]
theorem prW_miss {n p : Int} (h : 1 < n) (hp : 2 ≤ p) (hz : n % prQ n p ≠ 0) : prW n p = prW n (prQ n p + 1) := by
  unfold prQ at hz ⊢
  by_cases h2 : n < p * p
  · rw [if_pos h2, Int.emod_self] at hz; exact (hz rfl).elim
  · rw [if_neg h2] at hz
    rw [prW, dif_pos ⟨h, hp⟩, dif_neg h2, if_neg h2, if_neg hz]
theorem strip_miss {n q : Int} (hn : 1 ≤ n) (hq : 2 ≤ q) (hz : n % q ≠ 0) : strip n q = n := by
  unfold strip
  rw [vl_eq (u := n) (n := 0) hq (by omega) (by rw [Int.pow_zero]; omega) hz, Int.pow_zero]; exact Int.ediv_one _
/-- a round: what comes, and what is left -/
theorem prW_round {n p : Int} (h : 1 < n) (hp : 2 ≤ p) : prW n p = (if n % prQ n p = 0 then [prQ n p] else []) ++ prW (strip n (prQ n p)) (prQ n p + 1) := by
  by_cases hz : n % prQ n p = 0
  · rw [if_pos hz, prW_hit h hp hz]; rfl
  · rw [if_neg hz, strip_miss (by omega) (prQ_bd h hp).1 hz, ← prW_miss h hp hz]; rfl
/-- the round's measure -/
theorem prW_less {n p : Int} (h : 1 < n) (hp : 2 ≤ p) : msP (strip n (prQ n p)) (prQ n p + 1) < msP n p := by
  by_cases h2 : n < p * p
  · unfold prQ
    rw [if_pos h2, strip_self (by omega)]
    unfold msP
    rw [if_neg (by omega), if_pos h]; omega
  · unfold prQ
    rw [if_neg h2]
    exact prW_dec ⟨h, hp⟩ h2 (strip_le (by omega) hp).2
theorem prW_len : ∀ (f : Nat) (n p : Int), msP n p ≤ f → (prW n p).length ≤ f
  | 0, n, p, h => by
    unfold msP at h
    rw [prW_none (by intro q; rw [if_pos q] at h; omega)]; simp
  | f + 1, n, p, h => by
    by_cases hn : 1 < n ∧ 2 ≤ p
    · have := prW_less hn.1 hn.2
      have := prW_len f (strip n (prQ n p)) (prQ n p + 1) (by omega)
      rw [prW_round hn.1 hn.2, List.length_append]
      split <;> simp <;> omega
    · rw [prW, dif_neg hn]; simp
theorem prW_bd : ∀ (f : Nat) (n p : Int), msP n p ≤ f → 1 ≤ n → ∀ x ∈ prW n p, 2 ≤ x ∧ x ≤ n
  | 0, n, p, h, h1, x, hx => by
    unfold msP at h
    rw [prW_none (by intro q; rw [if_pos q] at h; omega)] at hx; cases hx
  | f + 1, n, p, h, h1, x, hx => by
    by_cases hn : 1 < n ∧ 2 ≤ p
    · have h2 := prW_less hn.1 hn.2
      have h4 := prQ_bd hn.1 hn.2
      have h5 := strip_le (n := n) (q := prQ n p) (by omega) h4.1
      rw [prW_round hn.1 hn.2, List.mem_append] at hx
      rcases hx with hx | hx
      · split at hx
        · simp only [List.mem_singleton] at hx; omega
        · cases hx
      · have := prW_bd f _ _ (by omega) h5.1 x hx; omega
    · rw [prW, dif_neg hn] at hx; cases hx
def prL (n : Int) : List Int := prW n 2
theorem prL_len {n : Int} (h : n ≤ 100000000000) : (prL n).length ≤ 100000000000 := by
  refine Nat.le_trans (prW_len (msP n 2) n 2 (Nat.le_refl _)) ?_
  unfold msP; split <;> omega
theorem prL_bd {n : Int} (h : 1 ≤ n) : ∀ x ∈ prL n, 2 ≤ x ∧ x ≤ n := prW_bd _ n 2 (Nat.le_refl _) h
/-! ### increasing lists -/
def putS (l : List Int) (n : Int) : List Int := match l with
  | [] => [n]
  | x :: l => if x < n then x :: putS l n else if x = n then x :: l else n :: x :: l
theorem putS_mem {n y : Int} : ∀ {l : List Int}, y ∈ putS l n ↔ y ∈ l ∨ y = n
  | [] => by simp [putS]
  | x :: l => by
    unfold putS
    split
    · rw [List.mem_cons, putS_mem (l := l), List.mem_cons, or_assoc]
    · split
      · rename_i h; subst h
        rw [List.mem_cons]
        constructor
        · rintro (h | h) <;> simp [h]
        · rintro ((h | h) | h) <;> simp [h]
      · simp only [List.mem_cons]
        constructor
        · rintro (h | h | h) <;> simp [h]
        · rintro ((h | h) | h) <;> simp [h]
theorem putS_sorted {n : Int} : ∀ {l : List Int}, l.Pairwise (· < ·) → (putS l n).Pairwise (· < ·)
  | [], _ => by simp [putS]
  | x :: l, h => by
    rw [List.pairwise_cons] at h
    unfold putS
    split
    · rename_i h1
      rw [List.pairwise_cons]
      refine ⟨fun y hy => ?_, putS_sorted h.2⟩
      rcases putS_mem.1 hy with h2 | h2
      · exact h.1 y h2
      · omega
    · split
      · exact List.pairwise_cons.2 h
      · rw [List.pairwise_cons]
        refine ⟨fun y hy => ?_, List.pairwise_cons.2 h⟩
        rcases List.mem_cons.1 hy with h2 | h2
        · omega
        · have := h.1 y h2; omega
theorem putS_split {n : Int} : ∀ (l : List Int) (k : Nat), (∀ j, j < k → (l.getD j 0) < n) → k ≤ l.length → putS l n = l.take k ++ putS (l.drop k) n
  | l, 0, _, _ => by simp
  | [], k + 1, _, h => by simp at h
  | x :: l, k + 1, h, hk => by
    have h0 : x < n := h 0 (by omega)
    rw [putS, if_pos h0, putS_split l k (fun j hj => by simpa using h (j + 1) (by omega)) (by simpa using hk)]
    simp
theorem sorted_ext : ∀ {l m : List Int}, l.Pairwise (· < ·) → m.Pairwise (· < ·) → (∀ x, x ∈ l ↔ x ∈ m) → l = m
  | [], [], _, _, _ => rfl
  | [], y :: m, _, _, h => by have := (h y).2 (by simp); cases this
  | x :: l, [], _, _, h => by have := (h x).1 (by simp); cases this
  | x :: l, y :: m, h1, h2, h => by
    rw [List.pairwise_cons] at h1 h2
    have e : x = y := by
      rcases List.mem_cons.1 ((h x).1 (by simp)) with h3 | h3
      · exact h3
      · rcases List.mem_cons.1 ((h y).2 (by simp)) with h4 | h4
        · exact h4.symm
        · have := h1.1 y h4; have := h2.1 x h3; omega
    subst e
    congr 1
    refine sorted_ext h1.2 h2.2 fun z => ?_
    constructor
    · intro hz
      rcases List.mem_cons.1 ((h z).1 (List.mem_cons_of_mem _ hz)) with h3 | h3
      · subst h3; have := h1.1 z hz; omega
      · exact h3
    · intro hz
      rcases List.mem_cons.1 ((h z).2 (List.mem_cons_of_mem _ hz)) with h3 | h3
      · subst h3; have := h2.1 z hz; omega
      · exact h3
def putA (l m : List Int) : List Int := m.foldl putS l
theorem putA_mem {y : Int} : ∀ {m l : List Int}, y ∈ putA l m ↔ y ∈ l ∨ y ∈ m
  | [], l => by simp [putA]
  | x :: m, l => by
    show y ∈ putA (putS l x) m ↔ _
    rw [putA_mem, putS_mem, List.mem_cons, or_assoc]
theorem putA_sorted : ∀ {m l : List Int}, l.Pairwise (· < ·) → (putA l m).Pairwise (· < ·)
  | [], l, h => h
  | x :: m, l, h => putA_sorted (m := m) (putS_sorted h)
theorem putA_append (l m n : List Int) : putA l (m ++ n) = putA (putA l m) n := by unfold putA; rw [List.foldl_append]
theorem putS_len (l : List Int) (n : Int) : (putS l n).length ≤ l.length + 1 := by
  induction l with
  | nil => simp [putS]
  | cons x l ih => unfold putS; split <;> (try split) <;> simp <;> omega
theorem putA_len : ∀ (m l : List Int), (putA l m).length ≤ l.length + m.length
  | [], l => by simp [putA]
  | x :: m, l => by
    have h1 := putA_len m (putS l x)
    have h2 := putS_len l x
    show (putA (putS l x) m).length ≤ _
    rw [List.length_cons]; omega
/-- the bad primes of a quartic -/
def dsc (D A C : Int) : Int := A * A - 4 * D * C
def bdL (D A C : Int) : List Int := putA [2] (prL D.natAbs ++ prL C.natAbs ++ prL (dsc D A C).natAbs)
theorem bdL_sorted (D A C : Int) : (bdL D A C).Pairwise (· < ·) := putA_sorted (by simp)
theorem bdL_two (D A C : Int) : ∀ x ∈ bdL D A C, 2 ≤ x := by
  intro x hx
  rcases putA_mem.1 hx with h | h
  · simp at h; omega
  · simp only [List.mem_append] at h
    have key : ∀ n : Int, x ∈ prL n.natAbs → 2 ≤ x := fun n hm => by
      by_cases h0 : n = 0
      · subst h0
        unfold prL at hm
        rw [prW_none (by omega)] at hm; cases hm
      · exact (prL_bd (n := n.natAbs) (by omega) x hm).1
    rcases h with (h | h) | h
    · exact key _ h
    · exact key _ h
    · exact key _ h
end
section
open Go.RowKit
set_option linter.unusedVariables false
set_option linter.unusedSimpArgs false
/-! ### the numbers found are pairwise coprime -/
/-- n has no divisor in 2 .. p - 1 -/
def NoDv (n p : Int) : Prop := ∀ e : Int, 2 ≤ e → e < p → n % e ≠ 0
theorem strip_dvd {n q : Int} (hn : 1 ≤ n) (hq : 2 ≤ q) : strip n q ∣ n := ⟨q ^ vl n q, (vl_div hq (show n ≠ 0 by omega)).1⟩
theorem strip_not {n q : Int} (hn : 1 ≤ n) (hq : 2 ≤ q) : strip n q % q ≠ 0 := (vl_div hq (show n ≠ 0 by omega)).2
theorem NoDv.of_dvd {n m p : Int} (h : NoDv n p) (hd : m ∣ n) : NoDv m p := fun e h1 h2 h3 => h e h1 h2 (Int.emod_eq_zero_of_dvd (Int.dvd_trans (Int.dvd_of_emod_eq_zero h3) hd))
/-- the number of a round that divides has no divisor but 1 and itself -/
theorem prQ_prime {n p : Int} (h : 1 < n) (hp : 2 ≤ p) (hd : NoDv n p) (hz : n % prQ n p = 0) : ∀ e : Int, 2 ≤ e → e < prQ n p → prQ n p % e ≠ 0 := by
  intro e h1 h2 h3
  have hqn : prQ n p ∣ n := Int.dvd_of_emod_eq_zero hz
  have hen : e ∣ n := Int.dvd_trans (Int.dvd_of_emod_eq_zero h3) hqn
  by_cases h4 : n < p * p
  · unfold prQ at h2 h3
    rw [if_pos h4] at h2 h3
    obtain ⟨f, hf⟩ := hen
    have hf1 : 2 ≤ f := by
      rcases Int.lt_or_le f 2 with h5 | h5
      · exfalso
        rcases Int.lt_or_le f 1 with h6 | h6
        · have : e * f ≤ 0 := Int.mul_nonpos_of_nonneg_of_nonpos (by omega) (by omega)
          omega
        · obtain rfl : f = 1 := by omega
          omega
      · exact h5
    rcases Int.lt_or_le e p with h5 | h5
    · exact hd e h1 h5 (Int.emod_eq_zero_of_dvd ⟨f, hf⟩)
    · rcases Int.lt_or_le f p with h6 | h6
      · exact hd f hf1 h6 (Int.emod_eq_zero_of_dvd ⟨e, by rw [hf, Int.mul_comm]⟩)
      · have := Int.mul_le_mul h5 h6 (by omega) (by omega)
        omega
  · have : prQ n p = p := by unfold prQ; rw [if_neg h4]
    rw [this] at h2
    exact hd e h1 h2 (Int.emod_eq_zero_of_dvd hen)
theorem noDv_next {n p : Int} (h : 1 < n) (hp : 2 ≤ p) (hd : NoDv n p) : NoDv (strip n (prQ n p)) (prQ n p + 1) := by
  have hq := prQ_bd h hp
  intro e h1 h2 h3
  by_cases e1 : e = prQ n p
  · subst e1; exact strip_not (by omega) hq.1 h3
  · by_cases h4 : n < p * p
    · have e2 : prQ n p = n := by unfold prQ; rw [if_pos h4]
      rw [e2, strip_self (by omega)] at h3
      rw [Int.emod_eq_of_lt (by omega) (by omega)] at h3
      omega
    · have e2 : prQ n p = p := by unfold prQ; rw [if_neg h4]
      rw [e2] at h2 e1 h3
      exact (hd.of_dvd (strip_dvd (by omega) hp)) e h1 (by omega) h3
theorem prW_dvd : ∀ (f : Nat) (n p : Int), msP n p ≤ f → ∀ x ∈ prW n p, x ∣ n
  | 0, n, p, h, x, hx => by
    unfold msP at h
    rw [prW_none (by intro q; rw [if_pos q] at h; omega)] at hx; cases hx
  | f + 1, n, p, h, x, hx => by
    by_cases hn : 1 < n ∧ 2 ≤ p
    · have h2 := prW_less hn.1 hn.2
      have h4 := prQ_bd hn.1 hn.2
      rw [prW_round hn.1 hn.2, List.mem_append] at hx
      rcases hx with hx | hx
      · split at hx
        · rename_i hz
          simp only [List.mem_singleton] at hx
          subst hx; exact Int.dvd_of_emod_eq_zero hz
        · cases hx
      · exact Int.dvd_trans (prW_dvd f _ _ (by omega) x hx) (strip_dvd (by omega) h4.1)
    · rw [prW, dif_neg hn] at hx; cases hx
def Cop (a b : Int) : Prop := Nat.Coprime a.natAbs b.natAbs
theorem cop_of_prime {q x : Int} (hq : 2 ≤ q) (hpr : ∀ e : Int, 2 ≤ e → e < q → q % e ≠ 0) (hx : ¬ q ∣ x) : Cop q x := by
  unfold Cop Nat.Coprime
  have h1 : Nat.gcd q.natAbs x.natAbs ∣ q.natAbs := Nat.gcd_dvd_left _ _
  have h2 : Nat.gcd q.natAbs x.natAbs ∣ x.natAbs := Nat.gcd_dvd_right _ _
  generalize Nat.gcd q.natAbs x.natAbs = g at *
  have hle : g ≤ q.natAbs := Nat.le_of_dvd (by omega) h1
  have h0 : g ≠ 0 := by intro e; subst e; have := Nat.eq_zero_of_zero_dvd h1; omega
  by_cases e1 : g = 1
  · exact e1
  · exfalso
    by_cases e2 : g = q.natAbs
    · exact hx (by rw [e2] at h2; exact Int.natAbs_dvd_natAbs.1 h2)
    · refine hpr g (by omega) (by omega) (Int.emod_eq_zero_of_dvd ?_)
      exact Int.natAbs_dvd_natAbs.1 (by simpa using h1)
theorem prW_cop : ∀ (f : Nat) (n p : Int), msP n p ≤ f → 2 ≤ p → NoDv n p → (prW n p).Pairwise Cop
  | 0, n, p, h, hp, hd => by
    unfold msP at h
    rw [prW_none (by intro q; rw [if_pos q] at h; omega)]; exact List.Pairwise.nil
  | f + 1, n, p, h, hp, hd => by
    by_cases hn : 1 < n
    · have h2 := prW_less hn hp
      have h4 := prQ_bd hn hp
      have ih := prW_cop f _ _ (by omega) (by omega) (noDv_next hn hp hd)
      rw [prW_round hn hp]
      by_cases hz : n % prQ n p = 0
      · rw [if_pos hz, List.singleton_append, List.pairwise_cons]
        refine ⟨fun x hx => cop_of_prime h4.1 (prQ_prime hn hp hd hz) fun hqx => ?_, ih⟩
        have hxs := prW_dvd _ _ _ (Nat.le_refl _) x hx
        exact strip_not (by omega) h4.1 (Int.emod_eq_zero_of_dvd (Int.dvd_trans hqx hxs))
      · rw [if_neg hz, List.nil_append]; exact ih
    · rw [prW_none hn]; exact List.Pairwise.nil
theorem prL_cop (n : Int) : (prL n).Pairwise Cop := prW_cop _ n 2 (Nat.le_refl _) (by omega) (fun e h1 h2 => by omega)
/-! ### their product -/
def prodL (l : List Int) : Int := l.foldr (· * ·) 1
theorem prodL_pos : ∀ {l : List Int}, (∀ x ∈ l, 2 ≤ x) → 1 ≤ prodL l
  | [], _ => by simp [prodL]
  | x :: l, h => by
    have h1 := prodL_pos (l := l) (fun y hy => h y (by simp [hy]))
    have h2 := h x (by simp)
    have := Int.mul_le_mul (show 1 ≤ x by omega) h1 (by omega) (by omega)
    show 1 ≤ x * prodL l
    omega
theorem prW_prod : ∀ (f : Nat) (n p : Int), msP n p ≤ f → 1 ≤ n → prodL (prW n p) ≤ n
  | 0, n, p, h, h1 => by
    unfold msP at h
    rw [prW_none (by intro q; rw [if_pos q] at h; omega)]
    simpa [prodL] using h1
  | f + 1, n, p, h, h1 => by
    by_cases hn : 1 < n ∧ 2 ≤ p
    · have h2 := prW_less hn.1 hn.2
      have h4 := prQ_bd hn.1 hn.2
      have h5 := strip_le (n := n) (q := prQ n p) (by omega) h4.1
      have ih := prW_prod f (strip n (prQ n p)) (prQ n p + 1) (by omega) h5.1
      rw [prW_round hn.1 hn.2]
      by_cases hz : n % prQ n p = 0
      · rw [if_pos hz]
        show prQ n p * prodL (prW (strip n (prQ n p)) (prQ n p + 1)) ≤ n
        have h6 : prQ n p * prodL (prW (strip n (prQ n p)) (prQ n p + 1)) ≤ prQ n p * strip n (prQ n p) := Int.mul_le_mul_of_nonneg_left ih (by omega)
        have h7 := (vl_div h4.1 (show n ≠ 0 by omega)).1
        have h8 : n / prQ n p ^ vl n (prQ n p) = strip n (prQ n p) := rfl
        rw [h8] at h7
        have h9 : 1 ≤ vl n (prQ n p) := by
          rcases Nat.eq_zero_or_pos (vl n (prQ n p)) with h0 | h0
          · have := (vl_div h4.1 (show n ≠ 0 by omega)).2
            rw [h0, Int.pow_zero, Int.ediv_one] at this
            exact (this hz).elim
          · exact h0
        have h10 := pow_mono' (p := prQ n p) (by omega) h9
        rw [show prQ n p ^ 1 = prQ n p by rw [Int.pow_succ, Int.pow_zero, Int.one_mul]] at h10
        have h11 := Int.mul_le_mul_of_nonneg_left h10 (show 0 ≤ strip n (prQ n p) by omega)
        rw [Int.mul_comm (prQ n p) (strip n (prQ n p))] at h6
        omega
      · rw [if_neg hz, List.nil_append]
        omega
    · rw [prW, dif_neg hn]; simpa [prodL] using h1
theorem prL_prod {n : Int} (h : 1 ≤ n) : prodL (prL n) ≤ n := prW_prod _ n 2 (Nat.le_refl _) h
/-! ### the divisors -/
def dvS (l : List Int) (p : Int) : List Int := l ++ l.map (· * p)
def dvA (l ps : List Int) : List Int := ps.foldl dvS l
/-- the reference's way: an increasing list -/
def dvT (l : List Int) (p : Int) : List Int := putA l (l.map (· * p))
def dvB (l ps : List Int) : List Int := ps.foldl dvT l
theorem dvS_mem {l : List Int} {p x : Int} : x ∈ dvS l p ↔ x ∈ l ∨ ∃ y, y ∈ l ∧ y * p = x := by simp [dvS]
theorem dvT_mem {l : List Int} {p x : Int} : x ∈ dvT l p ↔ x ∈ l ∨ ∃ y, y ∈ l ∧ y * p = x := by simp [dvT, putA_mem]
theorem dv_same : ∀ {ps l m : List Int}, (∀ x, x ∈ l ↔ x ∈ m) → ∀ x, x ∈ dvA l ps ↔ x ∈ dvB m ps
  | [], l, m, h, x => h x
  | p :: ps, l, m, h, x => dv_same (ps := ps) (fun y => by rw [dvS_mem, dvT_mem, h]; exact or_congr Iff.rfl ⟨fun ⟨z, a, b⟩ => ⟨z, (h z).1 a, b⟩, fun ⟨z, a, b⟩ => ⟨z, (h z).2 a, b⟩⟩) x
theorem dvB_sorted : ∀ {ps l : List Int}, l.Pairwise (· < ·) → (dvB l ps).Pairwise (· < ·)
  | [], l, h => h
  | p :: ps, l, h => dvB_sorted (ps := ps) (putA_sorted h)
theorem dvS_len (l : List Int) (p : Int) : (dvS l p).length = 2 * l.length := by simp [dvS]; omega
theorem dvA_len : ∀ (ps l : List Int), (dvA l ps).length = 2 ^ ps.length * l.length
  | [], l => by simp [dvA]
  | p :: ps, l => by
    show (dvA (dvS l p) ps).length = _
    rw [dvA_len ps, dvS_len, List.length_cons, Nat.pow_succ, Nat.mul_assoc]
/-- no number twice, none 0, each coprime to what comes -/
structure DvOk (l ps : List Int) (M : Int) : Prop where
  nodup : l.Nodup
  cop : ∀ x ∈ l, ∀ p ∈ ps, Cop p x
  bd : ∀ x ∈ l, x ≠ 0 ∧ x.natAbs ≤ M
theorem DvOk.step {l ps : List Int} {p M : Int} (h : DvOk l (p :: ps) M) (hp : 2 ≤ p) (hpp : ∀ q ∈ ps, Cop p q) : DvOk (dvS l p) ps (M * p) := by
  refine ⟨?_, ?_, ?_⟩
  · unfold dvS
    rw [List.nodup_append]
    refine ⟨h.nodup, ?_, ?_⟩
    · rw [List.nodup_iff_pairwise_ne, List.pairwise_map]
      refine (List.nodup_iff_pairwise_ne.1 h.nodup).imp fun hab e => hab ?_
      exact Int.eq_of_mul_eq_mul_right (by omega) e
    · intro a ha b hb e
      subst e
      obtain ⟨y, hy, e⟩ := List.mem_map.1 hb
      have h1 : Cop p a := h.cop a ha p (by simp)
      have h2 : p.natAbs ∣ a.natAbs := ⟨y.natAbs, by rw [← e, Int.natAbs_mul, Nat.mul_comm]⟩
      unfold Cop at h1
      have := Nat.Coprime.eq_one_of_dvd h1 h2
      omega
  · intro x hx q hq
    rcases dvS_mem.1 hx with h1 | ⟨y, h1, rfl⟩
    · exact h.cop x h1 q (by simp [hq])
    · have h2 := h.cop y h1 q (by simp [hq])
      have h3 := hpp q hq
      unfold Cop at *
      rw [Int.natAbs_mul]
      exact Nat.Coprime.mul_right h2 (Nat.Coprime.symm h3)
  · intro x hx
    rcases dvS_mem.1 hx with h1 | ⟨y, h1, rfl⟩
    · have h2 := h.bd x h1
      refine ⟨h2.1, ?_⟩
      have : M * 1 ≤ M * p := Int.mul_le_mul_of_nonneg_left (by omega) (by omega)
      omega
    · have h2 := h.bd y h1
      refine ⟨Int.mul_ne_zero h2.1 (by omega), ?_⟩
      rw [Int.natAbs_mul]
      push_cast
      have h3 : (p.natAbs : Int) = p := by omega
      have h4 : (y.natAbs : Int) * p ≤ M * p := Int.mul_le_mul_of_nonneg_right h2.2 (by omega)
      rw [h3]; exact h4
theorem DvOk.all : ∀ {ps l : List Int} {M : Int}, DvOk l ps M → (∀ p ∈ ps, 2 ≤ p) → ps.Pairwise Cop → DvOk (dvA l ps) [] (M * prodL ps)
  | [], l, M, h, _, _ => by
    have : M * prodL [] = M := by simp [prodL]
    rw [this]; exact ⟨h.nodup, (fun x hx p hp => by cases hp), h.bd⟩
  | p :: ps, l, M, h, h2, h3 => by
    rw [List.pairwise_cons] at h3
    have := (h.step (h2 p (by simp)) h3.1).all (ps := ps) (fun q hq => h2 q (by simp [hq])) h3.2
    have e : M * prodL (p :: ps) = M * p * prodL ps := by
      show M * (p * prodL ps) = _
      rw [Int.mul_assoc]
    rw [e]; exact this
def dvL (n : Int) : List Int := dvA [-1, 1] (prL n)
theorem dvL_ok {n : Int} (h : 1 ≤ n) : DvOk (dvL n) [] (prodL (prL n)) := by
  have h0 : DvOk [-1, 1] (prL n) 1 := by
    refine ⟨by decide, fun x hx p hp => ?_, fun x hx => ?_⟩
    · have : x.natAbs = 1 := by
        simp only [List.mem_cons, List.not_mem_nil, or_false] at hx
        omega
      unfold Cop
      rw [this]; exact Nat.coprime_one_right _
    · simp only [List.mem_cons, List.not_mem_nil, or_false] at hx
      omega
  have := h0.all (fun p hp => (prL_bd h p hp).1) (prL_cop n)
  rw [Int.one_mul] at this
  exact this
theorem dvL_bd {n : Int} (h : 1 ≤ n) : ∀ x ∈ dvL n, x ≠ 0 ∧ x.natAbs ≤ n := fun x hx => by
  have h1 := (dvL_ok h).bd x hx
  have h2 := prL_prod h
  omega
/-- the divisors, increasing -/
def dvR (n : Int) : List Int := dvB [-1, 1] (prL n)
theorem dvR_sorted (n : Int) : (dvR n).Pairwise (· < ·) := dvB_sorted (by decide)
theorem dvR_mem (n x : Int) : x ∈ dvL n ↔ x ∈ dvR n := dv_same (fun _ => Iff.rfl) x
theorem dvR_bd {n : Int} (h : 1 ≤ n) : ∀ x ∈ dvR n, x ≠ 0 ∧ x.natAbs ≤ n := fun x hx => dvL_bd h x ((dvR_mem n x).2 hx)
theorem dv_sort {n : Int} (h : 1 ≤ n) {l : List Int} (hs : l.Pairwise (· ≤ ·)) (hp : l.Perm (dvL n)) : l = dvR n := by
  refine sorted_ext ?_ (dvR_sorted n) fun x => by rw [hp.mem_iff, dvR_mem]
  have hn : l.Nodup := hp.nodup_iff.2 (dvL_ok h).nodup
  have h2 := List.nodup_iff_pairwise_ne.1 hn
  have h3 := hs.and h2
  exact h3.imp fun ⟨a, b⟩ => by omega
theorem two_prod : ∀ {ps : List Int}, (∀ p ∈ ps, 2 ≤ p) → ((2 ^ ps.length : Nat) : Int) ≤ prodL ps
  | [], _ => by simp [prodL]
  | p :: ps, h => by
    have h1 := two_prod (ps := ps) (fun q hq => h q (by simp [hq]))
    have h2 := h p (by simp)
    rw [List.length_cons, Nat.pow_succ]
    show _ ≤ p * prodL ps
    have h3 : (2 : Int) * ((2 ^ ps.length : Nat) : Int) ≤ p * prodL ps := Int.mul_le_mul h2 h1 (Int.natCast_nonneg _) (by omega)
    push_cast at h3 ⊢
    omega
theorem dvL_len {n : Int} (h : 1 ≤ n) : ((dvL n).length : Int) ≤ 2 * n := by
  unfold dvL
  rw [dvA_len]
  have h1 := two_prod (ps := prL n) (fun p hp => (prL_bd h p hp).1)
  have h2 := prL_prod h
  simp only [List.length_cons, List.length_nil]
  omega
theorem dvA_take_len {n : Int} (h : 1 ≤ n) (j : Nat) : ((dvA [-1, 1] ((prL n).take j)).length : Int) ≤ 2 * n := by
  have h1 := dvL_len h
  unfold dvL at h1
  rw [dvA_len] at h1 ⊢
  have h3 : ((prL n).take j).length ≤ (prL n).length := by rw [List.length_take]; omega
  have h4 := Nat.pow_le_pow_right (n := 2) (by omega) h3
  simp only [List.length_cons, List.length_nil] at h1 ⊢
  omega
theorem dvA_snoc (l ps : List Int) {j : Nat} (h : j < ps.length) : dvA l (ps.take (j + 1)) = dvS (dvA l (ps.take j)) (ps[j]?.getD 0) := by
  unfold dvA
  rw [List.take_add_one, List.getElem?_eq_getElem h, List.foldl_append]; rfl
theorem dvB_snoc (l ps : List Int) {j : Nat} (h : j < ps.length) : dvB l (ps.take (j + 1)) = dvT (dvB l (ps.take j)) (ps[j]?.getD 0) := by
  unfold dvB
  rw [List.take_add_one, List.getElem?_eq_getElem h, List.foldl_append]; rfl
theorem dvT_len (l : List Int) (p : Int) : (dvT l p).length ≤ 2 * l.length := by
  unfold dvT
  have := putA_len (l.map (· * p)) l
  rw [List.length_map] at this; omega
theorem dvB_len : ∀ (ps l : List Int), (dvB l ps).length ≤ 2 ^ ps.length * l.length
  | [], l => by simp [dvB]
  | p :: ps, l => by
    show (dvB (dvT l p) ps).length ≤ _
    refine Nat.le_trans (dvB_len ps _) ?_
    rw [List.length_cons, Nat.pow_succ, Nat.mul_assoc]
    exact Nat.mul_le_mul_left _ (dvT_len l p)
theorem dvB_take_len {n : Int} (h : 1 ≤ n) (j : Nat) : ((dvB [-1, 1] ((prL n).take j)).length : Int) ≤ 2 * n := by
  have h1 := dvA_take_len h j
  rw [dvA_len] at h1
  have h2 := dvB_len ((prL n).take j) [-1, 1]
  omega
end
section
open Go.RowKit
set_option linter.unusedVariables false
set_option linter.unusedSimpArgs false

/-! ### squares stay squares modulo smaller powers -/
theorem vl_red {p n : Int} {k : Nat} (hp : 2 ≤ p) (hn : n % p ^ k ≠ 0) : vl (n % p ^ k) p = vl n p ∧ vl n p < k ∧ ∃ t, n / p ^ vl n p = n % p ^ k / p ^ vl n p + t * p ^ (k - vl n p) := by
  have hq := pow_pos' (p := p) (by omega) k
  have h1 : 0 ≤ n % p ^ k := Int.emod_nonneg _ (by omega)
  have h2 : n % p ^ k < p ^ k := Int.emod_lt_of_pos _ (by omega)
  generalize hr : n % p ^ k = r at *
  have hv := vl_lt hp (by omega) h2
  obtain ⟨hd1, hd2⟩ := vl_div hp hn
  have hsplit : p ^ k = p ^ (k - vl r p) * p ^ vl r p := by rw [← Int.pow_add]; congr 1; omega
  have hne : n = r + n / p ^ k * p ^ k := by have := Int.emod_add_mul_ediv n (p ^ k); rw [hr] at this; rw [Int.mul_comm (n / p ^ k)]; omega
  have e : n = (r / p ^ vl r p + n / p ^ k * p ^ (k - vl r p)) * p ^ vl r p := by
    rw [Int.add_mul, ← hd1, Int.mul_assoc, ← hsplit]; exact hne
  have hmod : (r / p ^ vl r p + n / p ^ k * p ^ (k - vl r p)) % p ≠ 0 := by
    obtain ⟨d, hd⟩ : ∃ d, k - vl r p = d + 1 := ⟨k - vl r p - 1, by omega⟩
    rw [hd, Int.pow_succ, ← Int.mul_assoc, Int.add_mul_emod_self_right]; exact hd2
  have hn0 : n ≠ 0 := by intro h; rw [h] at hr; simp at hr; omega
  have hvn : vl n p = vl r p := vl_eq hp hn0 e hmod
  refine ⟨hvn.symm, by omega, n / p ^ k, ?_⟩
  rw [hvn]
  have hq2 := pow_pos' (p := p) (by omega) (vl r p)
  have : n / p ^ vl r p = (r / p ^ vl r p + n / p ^ k * p ^ (k - vl r p)) * p ^ vl r p / p ^ vl r p := by rw [← e]
  rw [this, Int.mul_ediv_cancel _ (by omega)]
theorem sy_red {a p t : Int} {d : Nat} (hp : 2 ≤ p) (hd : 1 ≤ d) : symB (a + t * p ^ d) p = symB a p := by
  obtain ⟨c, rfl⟩ : ∃ c, d = c + 1 := ⟨d - 1, by omega⟩
  unfold symB
  have : Cg p (a + t * p ^ (c + 1)) a := by unfold Cg; rw [Int.pow_succ, ← Int.mul_assoc, Int.add_mul_emod_self_right]
  have := Cg.pow this ((p - 1) / 2).toNat
  unfold Cg at this
  rw [this]
theorem sq_mono {p n : Int} {k : Nat} (hp : 2 ≤ p) (h : sqLo (n % p ^ (k + 1)) p (k + 1) = true) : sqLo (n % p ^ k) p k = true := by
  by_cases h0 : n % p ^ k = 0
  · simp [sqLo, h0]
  · have h1 : n % p ^ (k + 1) ≠ 0 := by
      intro e
      apply h0
      have h3 : p ^ (k + 1) ∣ n := Int.dvd_of_emod_eq_zero e
      exact Int.emod_eq_zero_of_dvd (Int.dvd_trans ⟨p, Int.pow_succ _ _⟩ h3)
    obtain ⟨a1, a2, t, a3⟩ := vl_red hp h0
    obtain ⟨b1, b2, u, b3⟩ := vl_red hp h1
    unfold sqLo at h ⊢
    rw [if_neg h1, b1] at h
    rw [if_neg h0, a1]
    by_cases ho : vl n p % 2 = 1
    · simp [ho] at h
    · rw [if_neg ho] at h ⊢
      have e : n % p ^ (k + 1) / p ^ vl n p + u * p ^ (k + 1 - vl n p) = n % p ^ k / p ^ vl n p + t * p ^ (k - vl n p) := by rw [← b3, ← a3]
      by_cases h2 : 2 < p
      · rw [if_pos h2] at h ⊢
        rw [← h, ← sy_red (t := t) (d := k - vl n p) hp (by omega), ← e, sy_red hp (by omega)]
      · rw [if_neg h2] at h ⊢
        have hp2 : p = 2 := by omega
        subst hp2
        simp only [decide_eq_true_eq] at h ⊢
        generalize n % 2 ^ (k + 1) / 2 ^ vl n 2 = x at *
        generalize n % 2 ^ k / 2 ^ vl n 2 = y at *
        have hd : k + 1 - vl n 2 = (k - vl n 2) + 1 := by omega
        rw [hd] at e h
        have hm : (k - vl n 2 = 1) ∨ (k - vl n 2 = 2) ∨ (3 ≤ k - vl n 2) := by omega
        generalize k - vl n 2 = d at *
        rcases hm with rfl | rfl | hm
        · simp [Int.pow_succ] at h e ⊢; omega
        · simp [Int.pow_succ] at h e ⊢; omega
        · obtain ⟨c, rfl⟩ : ∃ c, d = c + 3 := ⟨d - 3, by omega⟩
          have m1 : min 3 (c + 3) = 3 := by omega
          have m2 : min 3 (c + 3 + 1) = 3 := by omega
          rw [m1]; rw [m2] at h
          have p8 : (2 : Int) ^ (c + 3) = 8 * 2 ^ c := by rw [Int.pow_add]; simp [Int.mul_comm]
          have p9 : (2 : Int) ^ (c + 3 + 1) = 8 * (2 ^ c * 2) := by rw [Int.pow_succ, p8, Int.mul_assoc]
          rw [p8, p9] at e
          have e1 : u * (8 * (2 ^ c * 2)) = 8 * (u * (2 ^ c * 2)) := by rw [Int.mul_left_comm]
          have e2 : t * (8 * 2 ^ c) = 8 * (t * 2 ^ c) := by rw [Int.mul_left_comm]
          rw [e1, e2] at e
          generalize u * (2 ^ c * 2) = u' at e
          generalize t * 2 ^ c = t' at e
          simp at h ⊢
          omega
theorem pow_dvd_succ (p : Int) (k : Nat) : p ^ k ∣ p ^ (k + 1) := ⟨p, Int.pow_succ _ _⟩
theorem va_red {D A C m e m' e' p : Int} {k : Nat} (h1 : Cg (p ^ k) m m') (h2 : Cg (p ^ k) e e') : vaM D A C m e (p ^ (k + 1)) % p ^ k = vaM D A C m' e' (p ^ k) := by
  unfold vaM
  rw [Int.emod_emod_of_dvd _ (pow_dvd_succ p k)]
  have : Cg (p ^ k) (D * m * m * m * m + A * m * m * e * e + C * e * e * e * e) (D * m' * m' * m' * m' + A * m' * m' * e' * e' + C * e' * e' * e' * e') := by
    repeat (first | exact Cg.refl _ _ | assumption | apply Cg.add | apply Cg.mul)
  exact this
theorem va_self {D A C m e p : Int} {k : Nat} : vaM D A C m e (p ^ k) % p ^ k = vaM D A C m e (p ^ k) := by unfold vaM; exact Int.emod_emod _ _
theorem po_mono {D A C m e m' e' p : Int} {k : Nat} (hp : 2 ≤ p) (h1 : Cg (p ^ k) m m') (h2 : Cg (p ^ k) e e') (h : poB D A C m e p (k + 1) = true) : poB D A C m' e' p k = true := by
  unfold poB at h ⊢
  rw [← va_self] at h
  have := sq_mono hp h
  rwa [va_red h1 h2] at this
theorem li_po {D A C m e p : Int} {k : Nat} (h : liB D A C m e p k = true) : poB D A C m e p k = true := by
  unfold liB at h
  simp only [Bool.and_eq_true] at h
  exact h.1

/-! ### all pairs of a level, in the program's order -/
def rg (n : Int) : List Int := (List.range n.toNat).map fun (i : Nat) => (i : Int)
theorem mem_rg {n x : Int} : x ∈ rg n ↔ 0 ≤ x ∧ x < n := by
  simp only [rg, List.mem_map, List.mem_range]
  constructor
  · rintro ⟨i, h1, rfl⟩; omega
  · intro h; exact ⟨x.toNat, by omega, by omega⟩
theorem range_mul (n : Nat) : ∀ p : Nat, List.range (p * n) = (List.range p).flatMap fun j => (List.range n).map fun r => r + j * n
  | 0 => by simp
  | p + 1 => by
    rw [Nat.succ_mul, List.range_add, range_mul n p, List.range_succ, List.flatMap_append]
    simp [Nat.add_comm]
theorem rg_mul {n p : Int} (hn : 0 ≤ n) (hp : 0 ≤ p) : rg (p * n) = (rg p).flatMap fun j => (rg n).map fun r => r + j * n := by
  have : (p * n).toNat = p.toNat * n.toNat := by
    rw [Int.toNat_mul hp hn]
  unfold rg
  rw [this, range_mul, List.map_flatMap, List.flatMap_map]
  congr 1
  funext j
  rw [List.map_map, List.map_map]
  congr 1
  funext r
  simp only [Function.comp]
  push_cast
  rw [Int.toNat_of_nonneg hn]
def pl1 (D A C p : Int) (k : Nat) : List (Int × Int) := ((rg (p ^ k)).filter fun m => poB D A C m 1 p k).map fun m => (m, 1)
def pl2 (D A C p : Int) (k : Nat) : List (Int × Int) := ((rg (p ^ k)).filter fun e => decide (e % p = 0) && poB D A C 1 e p k).map fun e => (1, e)
/-- the possible pairs modulo p ^ k -/
def pl (D A C p : Int) (k : Nat) : List (Int × Int) := pl1 D A C p k ++ pl2 D A C p k
/-- the pairs that the program looks at next -/
def cd1 (l : List (Int × Int)) (p n : Int) : List (Int × Int) := (rg p).flatMap fun j => (l.filter fun x => decide (x.2 = 1)).map fun x => (x.1 + j * n, x.2)
def cd2 (l : List (Int × Int)) (p n : Int) : List (Int × Int) := (rg p).flatMap fun j => (l.filter fun x => !decide (x.2 = 1)).map fun x => (x.1, x.2 + j * n)
def cd (l : List (Int × Int)) (p n : Int) : List (Int × Int) := cd1 l p n ++ cd2 l p n
theorem pl_one {D A C p : Int} {k : Nat} (hp : 2 ≤ p) : (pl D A C p k).filter (fun x => decide (x.2 = 1)) = pl1 D A C p k := by
  unfold pl
  rw [List.filter_append, List.filter_eq_self.2, List.filter_eq_nil_iff.2, List.append_nil]
  · intro x hx
    simp only [pl2, List.mem_map, List.mem_filter, Bool.and_eq_true, decide_eq_true_eq] at hx
    obtain ⟨e, ⟨h1, h2, h3⟩, rfl⟩ := hx
    simp only [decide_eq_true_eq]
    intro h; subst h
    rw [Int.emod_eq_of_lt (by omega) (by omega)] at h2; omega
  · intro x hx
    simp only [pl1, List.mem_map] at hx
    obtain ⟨m, _, rfl⟩ := hx
    simp
theorem pl_two {D A C p : Int} {k : Nat} (hp : 2 ≤ p) : (pl D A C p k).filter (fun x => !decide (x.2 = 1)) = pl2 D A C p k := by
  unfold pl
  rw [List.filter_append, List.filter_eq_nil_iff.2, List.filter_eq_self.2, List.nil_append]
  · intro x hx
    simp only [pl2, List.mem_map, List.mem_filter, Bool.and_eq_true, decide_eq_true_eq] at hx
    obtain ⟨e, ⟨h1, h2, h3⟩, rfl⟩ := hx
    simp only [Bool.not_eq_true', decide_eq_false_iff_not]
    intro h; subst h
    rw [Int.emod_eq_of_lt (by omega) (by omega)] at h2; omega
  · intro x hx
    simp only [pl1, List.mem_map] at hx
    obtain ⟨m, _, rfl⟩ := hx
    simp
theorem filter_flatMap' {α β : Type} (f : α → List β) (q : β → Bool) : ∀ l : List α, (l.flatMap f).filter q = l.flatMap fun a => (f a).filter q
  | [] => rfl
  | a :: l => by simp only [List.flatMap_cons, List.filter_append, filter_flatMap' f q l]
theorem flatMap_congr' {α β : Type} {f g : α → List β} : ∀ {l : List α}, (∀ a ∈ l, f a = g a) → l.flatMap f = l.flatMap g
  | [], _ => rfl
  | a :: l, h => by simp only [List.flatMap_cons]; rw [h a (by simp), flatMap_congr' fun b hb => h b (by simp [hb])]
theorem cg_shift (n r j : Int) : Cg n (r + j * n) r := by unfold Cg; exact Int.add_mul_emod_self_right _ _ _
theorem pl_next {D A C p : Int} {k : Nat} (hp : 2 ≤ p) (hk : 1 ≤ k) : (cd (pl D A C p k) p (p ^ k)).filter (fun x => poB D A C x.1 x.2 p (k + 1)) = pl D A C p (k + 1) := by
  have hq := pow_pos' (p := p) (by omega) k
  have hr : rg (p ^ (k + 1)) = (rg p).flatMap fun j => (rg (p ^ k)).map fun r => r + j * p ^ k := by
    rw [Int.pow_succ, Int.mul_comm]; exact rg_mul (by omega) (by omega)
  have hdvd : (p ^ k) % p = 0 := by
    obtain ⟨c, rfl⟩ : ∃ c, k = c + 1 := ⟨k - 1, by omega⟩
    rw [Int.pow_succ]; exact Int.mul_emod_left _ _
  unfold cd cd1 cd2
  rw [List.filter_append, pl_one hp, pl_two hp]
  unfold pl
  congr 1
  · unfold pl1
    rw [hr, filter_flatMap', filter_flatMap', List.map_flatMap]
    congr 1; funext j
    rw [List.map_map, List.filter_map, List.filter_map, List.map_map, List.filter_filter]
    congr 1
    apply List.filter_congr
    intro r _
    simp only [Function.comp]
    rw [Bool.eq_iff_iff, Bool.and_eq_true]
    exact ⟨fun h => h.1, fun h => ⟨h, po_mono hp (cg_shift _ _ _) (Cg.refl _ _) h⟩⟩
  · unfold pl2
    rw [hr, filter_flatMap', filter_flatMap', List.map_flatMap]
    congr 1; funext j
    rw [List.map_map, List.filter_map, List.filter_map, List.map_map, List.filter_filter]
    congr 1
    apply List.filter_congr
    intro r _
    simp only [Function.comp]
    have hm : (r + j * p ^ k) % p = r % p := by
      rw [Int.add_emod, Int.mul_emod, hdvd]; simp
    rw [hm, Bool.eq_iff_iff]
    simp only [Bool.and_eq_true, decide_eq_true_eq]
    exact ⟨fun h => ⟨h.2.1, h.1⟩, fun h => ⟨h.2, h.1, po_mono hp (Cg.refl _ _) (cg_shift _ _ _) h.2⟩⟩
theorem pl_first {D A C p : Int} (hp : 2 ≤ p) : pl D A C p 1 = (((rg p).filter fun m => poB D A C m 1 p 1).map fun m => (m, 1)) ++ if poB D A C 1 0 p 1 = true then [(1, 0)] else [] := by
  unfold pl pl1 pl2
  rw [show p ^ 1 = p by rw [Int.pow_succ, Int.pow_zero, Int.one_mul]]
  congr 1
  have : (rg p).filter (fun e => decide (e % p = 0) && poB D A C 1 e p 1) = if poB D A C 1 0 p 1 = true then [0] else [] := by
    obtain ⟨n, hn⟩ : ∃ n : Nat, p.toNat = n + 1 := ⟨p.toNat - 1, by omega⟩
    unfold rg
    rw [hn, List.range_succ_eq_map, List.map_cons, List.filter_cons]
    have hrest : ((List.map Nat.succ (List.range n)).map (fun (i : Nat) => (i : Int))).filter (fun e => decide (e % p = 0) && poB D A C 1 e p 1) = [] := by
      rw [List.filter_eq_nil_iff]
      intro x hx
      simp only [List.mem_map, List.mem_range] at hx
      obtain ⟨y, ⟨z, hz, rfl⟩, rfl⟩ := hx
      rw [Int.emod_eq_of_lt (by omega) (by omega)]
      simp only [Bool.and_eq_true, decide_eq_true_eq]
      omega
    rw [hrest]
    simp
  rw [this]
  split <;> rfl
theorem find_next {D A C p : Int} {k : Nat} (hp : 2 ≤ p) (hk : 1 ≤ k) : (cd (pl D A C p k) p (p ^ k)).find? (fun x => liB D A C x.1 x.2 p (k + 1)) = (pl D A C p (k + 1)).find? (fun x => liB D A C x.1 x.2 p (k + 1)) := by
  rw [← pl_next hp hk, List.find?_filter]
  congr 1; funext x
  rw [Bool.eq_iff_iff]
  simp only [decide_eq_true_eq]
  exact ⟨fun h => ⟨li_po h, h⟩, fun h => h.2⟩
end
section
open Go.RowKit
set_option linter.unusedVariables false
set_option linter.unusedSimpArgs false
/-- possible pairs with a number below x, counted -/
def cntP (D A C p : Int) (k x : Nat) : Nat := ((List.range x).filter fun i : Nat => poB D A C (i : Int) 1 p k).length + ((List.range x).filter fun i : Nat => decide ((i : Int) % p = 0) && poB D A C 1 (i : Int) p k).length
theorem cntP_step (D A C p : Int) (k x : Nat) : cntP D A C p k (x + 1) = cntP D A C p k x + (if poB D A C (x : Int) 1 p k = true then 1 else 0) + (if (decide ((x : Int) % p = 0) && poB D A C 1 (x : Int) p k) = true then 1 else 0) := by
  unfold cntP
  rw [List.range_succ, List.filter_append, List.filter_append, List.length_append, List.length_append]
  have h1 : ∀ (q : Nat → Bool), ([x].filter q).length = if q x = true then 1 else 0 := fun q => by
    cases h : q x <;> simp [h]
  rw [h1, h1]
  omega
theorem cntP_le (D A C p : Int) (k x : Nat) : cntP D A C p k x ≤ 2 * x := by
  unfold cntP
  have h1 := List.length_filter_le (fun i : Nat => poB D A C (i : Int) 1 p k) (List.range x)
  have h2 := List.length_filter_le (fun i : Nat => decide ((i : Int) % p = 0) && poB D A C 1 (i : Int) p k) (List.range x)
  rw [List.length_range] at h1 h2
  omega
theorem cntP_pl (D A C p : Int) (k : Nat) : cntP D A C p k (p ^ k).toNat = (pl D A C p k).length := by
  unfold cntP pl pl1 pl2 rg
  rw [List.length_append, List.length_map, List.length_map, List.filter_map, List.filter_map, List.length_map, List.length_map]
  rfl
end
section
open Go.RowKit
set_option linter.unusedVariables false
set_option linter.unusedSimpArgs false
/-! ### level after level -/
def fdL (D A C p : Int) (k : Nat) : Option (Int × Int) := (pl D A C p k).find? fun x => liB D A C x.1 x.2 p k
/-- what comes of level k and the f levels behind it -/
def lpF (D A C p : Int) : Nat → Nat → (Int × Int) × (Int × Bool)
  | 0, k => match fdL D A C p k with
    | some x => (x, (k, true))
    | none => ((0, 0), (0, !(pl D A C p k).isEmpty))
  | f + 1, k => match fdL D A C p k with
    | some x => (x, (k, true))
    | none => if (pl D A C p k).isEmpty = true then ((0, 0), (0, false)) else lpF D A C p f (k + 1)
def lpV (D A C p : Int) : (Int × Int) × (Int × Bool) := lpF D A C p (dp p - 1) 1
theorem lpF_some {D A C p : Int} {f k : Nat} {x : Int × Int} (h : fdL D A C p k = some x) : lpF D A C p f k = (x, ((k : Int), true)) := by
  cases f <;> simp [lpF, h]
theorem lpF_end {D A C p : Int} {k : Nat} (h : fdL D A C p k = none) : lpF D A C p 0 k = ((0, 0), (0, !(pl D A C p k).isEmpty)) := by simp [lpF, h]
theorem lpF_nil {D A C p : Int} {f k : Nat} (h : fdL D A C p k = none) (h2 : (pl D A C p k).isEmpty = true) : lpF D A C p f k = ((0, 0), (0, false)) := by
  cases f <;> simp [lpF, h, h2]
theorem lpF_next {D A C p : Int} {f k : Nat} (h : fdL D A C p k = none) (h2 : (pl D A C p k).isEmpty = false) : lpF D A C p (f + 1) k = lpF D A C p f (k + 1) := by simp [lpF, h, h2]
/-! ### digit after digit -/
def mnS (b y : Int) : Int := if 0 ≤ y ∧ (b < 0 ∨ y < b) then y else b
def IsMn (S : Int → Prop) (b : Int) : Prop := (b = -1 ∧ ∀ y, ¬ S y) ∨ (S b ∧ 0 ≤ b ∧ ∀ y, S y → b ≤ y)
theorem IsMn.union {S T U : Int → Prop} {b c : Int} (h : IsMn S b) (h' : IsMn T c) (hU : ∀ y, U y ↔ S y ∨ T y) : IsMn U (mnS b c) := by
  unfold mnS
  rcases h with ⟨rfl, h⟩ | ⟨h1, h2, h3⟩ <;> rcases h' with ⟨rfl, h'⟩ | ⟨h1', h2', h3'⟩
  · left; exact ⟨by simp, fun y hy => ((hU y).1 hy).elim (h y) (h' y)⟩
  · right
    rw [if_pos ⟨h2', by left; omega⟩]
    exact ⟨(hU c).2 (.inr h1'), h2', fun y hy => ((hU y).1 hy).elim (fun q => (h y q).elim) (h3' y)⟩
  · right
    rw [if_neg (by omega)]
    exact ⟨(hU b).2 (.inl h1), h2, fun y hy => ((hU y).1 hy).elim (h3 y) (fun q => (h' y q).elim)⟩
  · right
    by_cases hc : c < b
    · rw [if_pos ⟨h2', .inr hc⟩]
      exact ⟨(hU c).2 (.inr h1'), h2', fun y hy => ((hU y).1 hy).elim (fun q => by have := h3 y q; omega) (h3' y)⟩
    · rw [if_neg (by omega)]
      exact ⟨(hU b).2 (.inl h1), h2, fun y hy => ((hU y).1 hy).elim (h3 y) (fun q => by have := h3' y q; omega)⟩
theorem IsMn.congr {S U : Int → Prop} {b : Int} (h : IsMn S b) (hU : ∀ y, U y ↔ S y) : IsMn U b := by
  rcases h with ⟨h, h'⟩ | ⟨h1, h2, h3⟩
  · exact .inl ⟨h, fun y hy => h' y ((hU y).1 hy)⟩
  · exact .inr ⟨(hU b).2 h1, h2, fun y hy => h3 y ((hU y).1 hy)⟩
def mS (s r : Int × Bool) : Int × Bool := (mnS s.1 r.1, s.2 || r.2)
/-- how many digits come at level i -/
def dgN (p : Int) (tn : Bool) (i : Nat) : Nat := if (tn && i == 0) = true then 1 else p.toNat
def bv (po : Int → Nat → Bool) (li : Int → Bool) (p : Int) (tn : Bool) : Nat → Int → Nat → Int × Bool
  | 0, x, i => if po x i = true then (if li x = true then x else -1, true) else (-1, false)
  | f + 1, x, i => if i ≠ 0 ∧ po x i = false then (-1, false) else (List.range (dgN p tn i)).foldl (fun s (t : Nat) => mS s (bv po li p tn f (x + t * p ^ i) (i + 1))) (-1, false)
/-- the fold over the first n digits -/
def bvN (po : Int → Nat → Bool) (li : Int → Bool) (p : Int) (tn : Bool) (f : Nat) (x : Int) (i n : Nat) : Int × Bool := (List.range n).foldl (fun s (t : Nat) => mS s (bv po li p tn f (x + t * p ^ i) (i + 1))) (-1, false)
theorem bvN_zero (po : Int → Nat → Bool) (li : Int → Bool) (p : Int) (tn : Bool) (f : Nat) (x : Int) (i : Nat) : bvN po li p tn f x i 0 = (-1, false) := rfl
theorem bvN_succ (po : Int → Nat → Bool) (li : Int → Bool) (p : Int) (tn : Bool) (f : Nat) (x : Int) (i n : Nat) : bvN po li p tn f x i (n + 1) = mS (bvN po li p tn f x i n) (bv po li p tn f (x + n * p ^ i) (i + 1)) := by
  unfold bvN; rw [List.range_succ, List.foldl_append]; rfl
def cand (p x : Int) (i f : Nat) (y : Int) : Prop := ∃ t : Nat, (t : Int) < p ^ f ∧ y = x + t * p ^ i
theorem cand_zero {p x : Int} {i : Nat} {y : Int} : cand p x i 0 y ↔ y = x := by
  constructor
  · rintro ⟨t, h, rfl⟩; rw [Int.pow_zero] at h; obtain rfl : t = 0 := by omega
    simp
  · rintro rfl; exact ⟨0, by simp, by simp⟩
theorem cand_succ {p x : Int} (hp : 2 ≤ p) {i f : Nat} {y : Int} : cand p x i (f + 1) y ↔ ∃ t : Nat, t < p.toNat ∧ cand p (x + t * p ^ i) (i + 1) f y := by
  have hq := pow_pos' (p := p) (by omega) f
  constructor
  · rintro ⟨t, h, rfl⟩
    obtain ⟨P, rfl⟩ : ∃ P : Nat, p = P := ⟨p.toNat, by omega⟩
    refine ⟨t % P, by rw [Int.toNat_natCast]; exact Nat.mod_lt _ (by omega), t / P, ?_, ?_⟩
    · rw [Int.pow_succ] at h
      have h2 : ((t / P : Nat) : Int) = (t : Int) / P := by push_cast; rfl
      rw [h2]
      exact Int.ediv_lt_of_lt_mul (by omega) h
    · have h1 : (t : Int) = (t % P : Nat) + (t / P : Nat) * P := by
        have := Nat.mod_add_div t P
        rw [Nat.mul_comm] at this; omega
      rw [Int.add_assoc]
      congr 1
      conv => lhs; rw [h1]
      rw [Int.pow_succ, Int.add_mul, Int.mul_assoc, Int.mul_comm (P : Int) ((P : Int) ^ i)]
  · rintro ⟨t, ht, u, hu, rfl⟩
    obtain ⟨P, rfl⟩ : ∃ P : Nat, p = P := ⟨p.toNat, by omega⟩
    rw [Int.toNat_natCast] at ht
    refine ⟨t + u * P, ?_, ?_⟩
    · rw [Int.pow_succ]
      have h1 : (u : Int) + 1 ≤ (P : Int) ^ f := by omega
      have h2 : ((u : Int) + 1) * P ≤ (P : Int) ^ f * P := Int.mul_le_mul_of_nonneg_right h1 (by omega)
      rw [Int.add_mul] at h2
      push_cast
      omega
    · rw [Int.add_assoc]
      congr 1
      push_cast
      rw [Int.pow_succ, Int.add_mul, Int.mul_assoc (u : Int), Int.mul_comm (P : Int) ((P : Int) ^ i)]
theorem cand_cg {p x : Int} {i f : Nat} {y : Int} (h : cand p x i f y) : Cg (p ^ i) y x := by
  obtain ⟨t, _, rfl⟩ := h
  exact cg_shift _ _ _
theorem Cg.lower {p x y : Int} {i : Nat} (h : Cg (p ^ (i + 1)) x y) : Cg (p ^ i) x y := by
  unfold Cg at *
  rw [← Int.emod_emod_of_dvd x (pow_dvd_succ p i), h, Int.emod_emod_of_dvd _ (pow_dvd_succ p i)]
theorem po_down {po : Int → Nat → Bool} {p : Int} (hm : ∀ y x i, Cg (p ^ i) y x → po y (i + 1) = true → po x i = true) {y : Int} : ∀ (f i : Nat) {x : Int}, Cg (p ^ i) y x → po y (i + f + 1) = true → po x i = true
  | 0, i, x, hc, h => hm y x i hc h
  | f + 1, i, x, hc, h => hm y x i hc (po_down hm f (i + 1) (Cg.refl _ _) (by rw [show i + 1 + f + 1 = i + (f + 1) + 1 by omega]; exact h))
structure BvOk (po : Int → Nat → Bool) (li : Int → Bool) (k : Nat) (S : Int → Prop) (r : Int × Bool) : Prop where
  min : IsMn (fun y => S y ∧ li y = true) r.1
  any : r.2 = true ↔ ∃ y, S y ∧ po y k = true
theorem bv_fold {po : Int → Nat → Bool} {li : Int → Bool} {p : Int} {tn : Bool} {k f i : Nat} {x : Int} {S : Nat → Int → Prop} (h : ∀ t, BvOk po li k (S t) (bv po li p tn f (x + t * p ^ i) (i + 1))) : ∀ n, BvOk po li k (fun y => ∃ t, t < n ∧ S t y) (bvN po li p tn f x i n)
  | 0 => by
    rw [bvN_zero]
    refine ⟨.inl ⟨rfl, ?_⟩, ?_⟩
    · rintro y ⟨⟨t, ht, _⟩, _⟩; omega
    · simp
  | n + 1 => by
    rw [bvN_succ]
    obtain ⟨h1, h2⟩ := bv_fold h n
    obtain ⟨h3, h4⟩ := h n
    refine ⟨h1.union h3 fun y => ?_, ?_⟩
    · constructor
      · rintro ⟨⟨t, ht, hs⟩, hl⟩
        by_cases e : t = n
        · subst e; exact .inr ⟨hs, hl⟩
        · exact .inl ⟨⟨t, by omega, hs⟩, hl⟩
      · rintro (⟨⟨t, ht, hs⟩, hl⟩ | ⟨hs, hl⟩)
        · exact ⟨⟨t, by omega, hs⟩, hl⟩
        · exact ⟨⟨n, by omega, hs⟩, hl⟩
    · show (_ || _) = true ↔ _
      rw [Bool.or_eq_true, h2, h4]
      constructor
      · rintro (⟨y, ⟨t, ht, hs⟩, hl⟩ | ⟨y, hs, hl⟩)
        · exact ⟨y, ⟨t, by omega, hs⟩, hl⟩
        · exact ⟨y, ⟨n, by omega, hs⟩, hl⟩
      · rintro ⟨y, ⟨t, ht, hs⟩, hl⟩
        by_cases e : t = n
        · subst e; exact .inr ⟨y, hs, hl⟩
        · exact .inl ⟨y, ⟨t, by omega, hs⟩, hl⟩
theorem BvOk.congr {po : Int → Nat → Bool} {li : Int → Bool} {k : Nat} {S U : Int → Prop} {r : Int × Bool} (h : BvOk po li k S r) (hU : ∀ y, U y ↔ S y) : BvOk po li k U r :=
  ⟨h.min.congr fun y => by rw [hU], by rw [h.any]; exact ⟨fun ⟨y, a, b⟩ => ⟨y, (hU y).2 a, b⟩, fun ⟨y, a, b⟩ => ⟨y, (hU y).1 a, b⟩⟩⟩
theorem bv_ok {po : Int → Nat → Bool} {li : Int → Bool} {p : Int} {tn : Bool} {k : Nat} (hp : 2 ≤ p) (hm : ∀ y x i, Cg (p ^ i) y x → po y (i + 1) = true → po x i = true) (hl : ∀ y, li y = true → po y k = true) :
    ∀ (f i : Nat) (x : Int), i + f = k → 0 ≤ x → (tn = false ∨ 1 ≤ i) → BvOk po li k (cand p x i f) (bv po li p tn f x i)
  | 0, i, x, hk, hx, _ => by
    obtain rfl : i = k := by omega
    unfold bv
    cases h1 : po x i
    · have h2 : li x = false := by cases h2 : li x; · rfl
                                   · rw [hl x h2] at h1; cases h1
      refine ⟨.inl ⟨rfl, ?_⟩, ?_⟩
      · rintro y ⟨hy, h3⟩; rw [cand_zero.1 hy, h2] at h3; cases h3
      · simp only [Bool.false_eq_true, if_false, false_iff]
        rintro ⟨y, hy, h3⟩; rw [cand_zero.1 hy, h1] at h3; cases h3
    · cases h2 : li x
      · refine ⟨.inl ⟨rfl, ?_⟩, ?_⟩
        · rintro y ⟨hy, h3⟩; rw [cand_zero.1 hy, h2] at h3; cases h3
        · simp only [if_true, true_iff]
          exact ⟨x, cand_zero.2 rfl, h1⟩
      · refine ⟨.inr ⟨⟨cand_zero.2 rfl, h2⟩, hx, ?_⟩, ?_⟩
        · rintro y ⟨hy, h3⟩; rw [cand_zero.1 hy]; simp
        · simp only [if_true, true_iff]
          exact ⟨x, cand_zero.2 rfl, h1⟩
  | f + 1, i, x, hk, hx, ht => by
    unfold bv
    by_cases h : i ≠ 0 ∧ po x i = false
    · rw [if_pos h]
      have hn : ∀ y, cand p x i (f + 1) y → po y k = false := fun y hy => by
        cases h3 : po y k
        · rfl
        · have := po_down hm f i (cand_cg hy) (by rw [show i + f + 1 = k by omega]; exact h3)
          rw [h.2] at this; cases this
      refine ⟨.inl ⟨rfl, ?_⟩, ?_⟩
      · rintro y ⟨hy, h3⟩
        have := hl y h3; rw [hn y hy] at this; cases this
      · simp only [Bool.false_eq_true, false_iff]
        rintro ⟨y, hy, h3⟩; rw [hn y hy] at h3; cases h3
    · rw [if_neg h]
      have hd : dgN p tn i = p.toNat := by
        unfold dgN
        rw [if_neg]
        rcases ht with rfl | h1
        · simp
        · simp; omega
      rw [hd]
      have hq := pow_pos' (p := p) (by omega) i
      refine (bv_fold (S := fun t => cand p (x + t * p ^ i) (i + 1) f) (fun t => bv_ok hp hm hl f (i + 1) _ (by omega) ?_ (.inr (by omega))) p.toNat).congr fun y => cand_succ hp
      have : 0 ≤ (t : Int) * p ^ i := Int.mul_nonneg (by omega) (by omega)
      omega
theorem cand_turned {p : Int} (hp : 2 ≤ p) {f : Nat} {y : Int} : (cand p 0 0 (f + 1) y ∧ y % p = 0) ↔ cand p 0 1 f y := by
  obtain ⟨P, rfl⟩ : ∃ P : Nat, p = P := ⟨p.toNat, by omega⟩
  constructor
  · rintro ⟨⟨t, ht, rfl⟩, h⟩
    rw [Int.pow_zero, Int.mul_one, Int.zero_add] at h
    have h1 : (P : Int) ∣ (t : Int) := Int.dvd_of_emod_eq_zero h
    obtain ⟨u, hu⟩ := Int.natCast_dvd_natCast.1 h1
    subst hu
    refine ⟨u, ?_, ?_⟩
    · rw [Int.pow_succ] at ht
      push_cast at ht
      rw [Int.mul_comm] at ht
      exact Int.lt_of_mul_lt_mul_right ht (by omega)
    · rw [Int.pow_zero, Int.pow_succ, Int.pow_zero]; push_cast; rw [Int.mul_one, Int.one_mul, Int.mul_comm]
  · rintro ⟨u, hu, rfl⟩
    refine ⟨⟨u * P, ?_, ?_⟩, ?_⟩
    · rw [Int.pow_succ]
      push_cast
      exact Int.mul_lt_mul_of_pos_right hu (by omega)
    · push_cast; simp [Int.pow_succ]
    · rw [Int.zero_add, Int.pow_succ, Int.pow_zero, Int.one_mul]; exact Int.mul_emod_left _ _
/-- at the head of a turned search the first digit is 0 -/
theorem bv_turned {po : Int → Nat → Bool} {li : Int → Bool} {p : Int} {f : Nat} (hp : 2 ≤ p) (hm : ∀ y x i, Cg (p ^ i) y x → po y (i + 1) = true → po x i = true) (hl : ∀ y, li y = true → po y (f + 1) = true) :
    BvOk po li (f + 1) (fun y => cand p 0 0 (f + 1) y ∧ y % p = 0) (bv po li p true (f + 1) 0 0) := by
  unfold bv
  rw [if_neg (by simp)]
  obtain ⟨h1, h2⟩ := bv_ok (tn := true) (k := f + 1) hp hm hl f 1 (0 + (0 : Nat) * p ^ 0) (by omega) (by simp) (.inr (by omega))
  have e : (0 + ((0 : Nat) : Int) * p ^ 0) = 0 := by simp
  show BvOk _ _ _ _ (mS (-1, false) (bv po li p true f (0 + ((0 : Nat) : Int) * p ^ 0) 1))
  rw [e] at h1 h2 ⊢
  refine ⟨?_, ?_⟩
  · refine (IsMn.union (S := fun _ => False) (.inl ⟨rfl, fun _ => id⟩) h1 fun y => ?_)
    rw [cand_turned hp, false_or]
  · rw [show (mS (-1, false) (bv po li p true f 0 1)).2 = (bv po li p true f 0 1).2 from Bool.false_or _, h2]
    exact ⟨fun ⟨y, a, b⟩ => ⟨y, (cand_turned hp).2 a, b⟩, fun ⟨y, a, b⟩ => ⟨y, (cand_turned hp).1 a, b⟩⟩
/-! ### both roads meet -/
theorem find_rg {q : Int → Bool} {b : Int} {N : Nat} (h : IsMn (fun y => (0 ≤ y ∧ y < N) ∧ q y = true) b) : (rg N).find? q = if b < 0 then none else some b := by
  have hr : (rg N).find? q = ((List.range N).find? fun i : Nat => q i).map fun (i : Nat) => (i : Int) := by
    unfold rg; rw [Int.toNat_natCast, List.find?_map]; rfl
  rw [hr]
  rcases h with ⟨rfl, h⟩ | ⟨⟨⟨h1, h2⟩, h3⟩, h4, h5⟩
  · rw [if_pos (by omega), Option.map_eq_none_iff, List.find?_eq_none]
    intro i hi hq
    rw [List.mem_range] at hi
    exact h i ⟨⟨by omega, by omega⟩, hq⟩
  · rw [if_neg (by omega)]
    obtain ⟨B, rfl⟩ : ∃ B : Nat, b = B := ⟨b.toNat, by omega⟩
    have : (List.range N).find? (fun i : Nat => q i) = some B := by
      rw [List.find?_range_eq_some]
      refine ⟨h3, List.mem_range.2 (by omega), fun j hj => ?_⟩
      cases hq : q j
      · rfl
      · have := h5 j ⟨⟨by omega, by omega⟩, hq⟩; omega
    rw [this]; rfl
theorem cand_all {p : Int} (hp : 2 ≤ p) {k : Nat} {y : Int} : cand p 0 0 k y ↔ 0 ≤ y ∧ y < p ^ k := by
  constructor
  · rintro ⟨t, h, rfl⟩; rw [Int.pow_zero]; omega
  · rintro ⟨h1, h2⟩; exact ⟨y.toNat, by omega, by rw [Int.pow_zero]; omega⟩
def bv1 (D A C p : Int) (k : Nat) : Int × Bool := bv (fun y i => poB D A C y 1 p i) (fun y => liB D A C y 1 p k) p false k 0 0
def bv2 (D A C p : Int) (k : Nat) : Int × Bool := bv (fun y i => poB D A C 1 y p i) (fun y => liB D A C 1 y p k) p true k 0 0
theorem bv1_ok {D A C p : Int} {k : Nat} (hp : 2 ≤ p) : BvOk (fun y i => poB D A C y 1 p i) (fun y => liB D A C y 1 p k) k (fun y => 0 ≤ y ∧ y < p ^ k) (bv1 D A C p k) :=
  (bv_ok hp (fun y x i h1 h2 => po_mono hp h1 (Cg.refl _ _) h2) (fun y h => li_po h) k 0 0 (by omega) (by omega) (.inl rfl)).congr fun y => (cand_all hp).symm
theorem bv2_ok {D A C p : Int} {k : Nat} (hp : 2 ≤ p) (hk : 1 ≤ k) : BvOk (fun y i => poB D A C 1 y p i) (fun y => liB D A C 1 y p k) k (fun y => (0 ≤ y ∧ y < p ^ k) ∧ y % p = 0) (bv2 D A C p k) := by
  obtain ⟨f, rfl⟩ : ∃ f, k = f + 1 := ⟨k - 1, by omega⟩
  exact (bv_turned hp (fun y x i h1 h2 => po_mono hp (Cg.refl _ _) h1 h2) (fun y h => li_po h)).congr fun y => by rw [cand_all hp]
theorem pl_find {D A C p : Int} {k : Nat} (hp : 2 ≤ p) (hk : 1 ≤ k) : fdL D A C p k = if (bv1 D A C p k).1 < 0 then (if (bv2 D A C p k).1 < 0 then none else some (1, (bv2 D A C p k).1)) else some ((bv1 D A C p k).1, 1) := by
  have hq := pow_pos' (p := p) (by omega) k
  have h1 := (bv1_ok (D := D) (A := A) (C := C) (k := k) hp).min
  have h2 := (bv2_ok (D := D) (A := A) (C := C) hp hk).min
  obtain ⟨N, hN⟩ : ∃ N : Nat, p ^ k = N := ⟨(p ^ k).toNat, by omega⟩
  have e1 : (pl1 D A C p k).find? (fun x => liB D A C x.1 x.2 p k) = ((rg (p ^ k)).find? fun y => liB D A C y 1 p k).map fun y => (y, 1) := by
    unfold pl1
    rw [List.find?_map, List.find?_filter]
    congr 1
    congr 1; funext y
    simp only [Function.comp]
    rw [Bool.eq_iff_iff]
    simp only [decide_eq_true_eq]
    exact ⟨fun h => h.2, fun h => ⟨li_po h, h⟩⟩
  have e2 : (pl2 D A C p k).find? (fun x => liB D A C x.1 x.2 p k) = ((rg (p ^ k)).find? fun y => decide (y % p = 0) && liB D A C 1 y p k).map fun y => (1, y) := by
    unfold pl2
    rw [List.find?_map, List.find?_filter]
    congr 1
    congr 1; funext y
    simp only [Function.comp]
    rw [Bool.eq_iff_iff]
    simp only [decide_eq_true_eq, Bool.and_eq_true]
    exact ⟨fun h => ⟨h.1.1, h.2⟩, fun h => ⟨⟨h.1, li_po h.2⟩, h.2⟩⟩
  unfold fdL pl
  rw [List.find?_append, e1, e2]
  rw [hN] at h1 h2 ⊢
  rw [find_rg h1]
  rw [find_rg (q := fun y => decide (y % p = 0) && liB D A C 1 y p k) (h2.congr fun y => by simp [and_assoc])]
  by_cases c1 : (bv1 D A C p k).1 < 0
  · rw [if_pos c1, if_pos c1]
    by_cases c2 : (bv2 D A C p k).1 < 0
    · rw [if_pos c2, if_pos c2]; rfl
    · rw [if_neg c2, if_neg c2]; rfl
  · rw [if_neg c1, if_neg c1]; rfl
theorem pl_any {D A C p : Int} {k : Nat} (hp : 2 ≤ p) (hk : 1 ≤ k) : (!(pl D A C p k).isEmpty) = ((bv1 D A C p k).2 || (bv2 D A C p k).2) := by
  have h1 := (bv1_ok (D := D) (A := A) (C := C) (k := k) hp).any
  have h2 := (bv2_ok (D := D) (A := A) (C := C) hp hk).any
  rw [Bool.eq_iff_iff, Bool.or_eq_true, h1, h2]
  simp only [Bool.not_eq_true', List.isEmpty_eq_false_iff_exists_mem, pl, List.mem_append, pl1, pl2, List.mem_map, List.mem_filter, mem_rg, Bool.and_eq_true, decide_eq_true_eq]
  constructor
  · rintro ⟨x, ⟨y, h, _⟩ | ⟨y, ⟨h3, h4, h5⟩, _⟩⟩
    · exact .inl ⟨y, h⟩
    · exact .inr ⟨y, ⟨h3, h4⟩, h5⟩
  · rintro (⟨y, h⟩ | ⟨y, ⟨h3, h4⟩, h5⟩)
    · exact ⟨_, .inl ⟨y, h, rfl⟩⟩
    · exact ⟨_, .inr ⟨y, ⟨h3, h4, h5⟩, rfl⟩⟩
theorem bv_least {po : Int → Nat → Bool} {li : Int → Bool} {k : Nat} {S : Int → Prop} {r : Int × Bool} (h : BvOk po li k S r) : -1 ≤ r.1 := by
  rcases h.min with ⟨h, _⟩ | ⟨_, h, _⟩ <;> omega
end
section
open Go.RowKit
set_option linter.unusedVariables false
set_option linter.unusedSimpArgs false
/-! ### squares modulo a power of a prime -/
/-- what is asked of a prime: it divides a square's root, and odd parts of squares are squares -/
structure GoodQ (p : Int) : Prop where
  two : 2 ≤ p
  root : ∀ a b : Int, a * b % p = 0 → a % p = 0 ∨ b % p = 0
  sym : ∀ u : Int, 2 < p → u % p ≠ 0 → symB (u * u) p = true
/-- and that there are inverses -/
structure GoodP (p : Int) : Prop extends GoodQ p where
  inv : ∀ a : Int, a % p ≠ 0 → ∃ b : Int, a * b % p = 1
theorem mod_mul (a b p : Int) : a * b % p = a % p * (b % p) % p := Int.mul_emod a b p
theorem good2 : GoodP 2 := ⟨⟨by omega, fun a b h => by
    rw [mod_mul] at h
    rcases (show a % 2 = 0 ∨ a % 2 = 1 by omega) with e | e <;> rcases (show b % 2 = 0 ∨ b % 2 = 1 by omega) with f | f <;> rw [e, f] at h <;> omega,
  fun u h => by omega⟩,
  fun a h => ⟨1, by omega⟩⟩
theorem good3 : GoodP 3 := ⟨⟨by omega, fun a b h => by
    rw [mod_mul] at h
    rcases (show a % 3 = 0 ∨ a % 3 = 1 ∨ a % 3 = 2 by omega) with e | e | e <;> rcases (show b % 3 = 0 ∨ b % 3 = 1 ∨ b % 3 = 2 by omega) with f | f | f <;> rw [e, f] at h <;> omega,
  fun u _ h => by
    unfold symB
    rw [decide_eq_true_eq, show ((3 - 1) / 2 : Int).toNat = 1 from rfl, Int.pow_succ, Int.pow_zero, Int.one_mul, mod_mul]
    rcases (show u % 3 = 1 ∨ u % 3 = 2 by omega) with e | e <;> rw [e] <;> rfl⟩,
  fun a h => by
    rcases (show a % 3 = 1 ∨ a % 3 = 2 by omega) with e | e
    · exact ⟨1, by omega⟩
    · exact ⟨2, by omega⟩⟩
theorem good5 : GoodP 5 := ⟨⟨by omega, fun a b h => by
    rw [mod_mul] at h
    rcases (show a % 5 = 0 ∨ a % 5 = 1 ∨ a % 5 = 2 ∨ a % 5 = 3 ∨ a % 5 = 4 by omega) with e | e | e | e | e <;> rcases (show b % 5 = 0 ∨ b % 5 = 1 ∨ b % 5 = 2 ∨ b % 5 = 3 ∨ b % 5 = 4 by omega) with f | f | f | f | f <;> rw [e, f] at h <;> omega,
  fun u _ h => by
    unfold symB
    rw [decide_eq_true_eq, show ((5 - 1) / 2 : Int).toNat = 2 from rfl, Int.pow_succ, Int.pow_succ, Int.pow_zero, Int.one_mul, mod_mul (u * u), mod_mul u]
    rcases (show u % 5 = 1 ∨ u % 5 = 2 ∨ u % 5 = 3 ∨ u % 5 = 4 by omega) with e | e | e | e <;> rw [e] <;> rfl⟩,
  fun a h => by
    rcases (show a % 5 = 1 ∨ a % 5 = 2 ∨ a % 5 = 3 ∨ a % 5 = 4 by omega) with e | e | e | e
    · exact ⟨1, by omega⟩
    · exact ⟨3, by omega⟩
    · exact ⟨2, by omega⟩
    · exact ⟨4, by omega⟩⟩
theorem sq_yes {p s : Int} (G : GoodQ p) {k : Nat} : sqLo (s * s % p ^ k) p k = true := by
  have hp := G.two
  by_cases h0 : s * s % p ^ k = 0
  · simp [sqLo, h0]
  · obtain ⟨a1, a2, t, a3⟩ := vl_red hp h0
    have hs : s ≠ 0 := fun e => h0 (by rw [e]; simp)
    obtain ⟨u, hu, hu2⟩ := vl_spec hp hs
    have huu : u * u % p ≠ 0 := fun e => by rcases G.root u u e with f | f <;> exact hu2 f
    have hss : s * s ≠ 0 := fun e => by rcases Int.mul_eq_zero.1 e with f | f <;> exact hs f
    have e1 : s * s = u * u * p ^ (2 * vl s p) := by
      rw [show 2 * vl s p = vl s p + vl s p by omega, Int.pow_add]
      generalize vl s p = n at *
      rw [hu]; grind
    have e2 := vl_eq hp hss e1 huu
    have hpp := pow_pos' (p := p) (by omega) (2 * vl s p)
    have e3 : s * s / p ^ vl (s * s) p = u * u := by
      rw [e2]
      conv => lhs; rw [e1]
      exact Int.mul_ediv_cancel _ (by omega)
    unfold sqLo
    rw [if_neg h0, a1, if_neg (by rw [e2]; omega)]
    by_cases h2 : 2 < p
    · rw [if_pos h2, ← sy_red (t := t) (d := k - vl (s * s) p) hp (by omega), ← a3, e3]
      exact G.sym u h2 hu2
    · rw [if_neg h2]
      have hp2 : p = 2 := by omega
      subst hp2
      rw [e3] at a3
      generalize hd : k - vl (s * s) 2 = d at *
      have hd1 : 1 ≤ d := by omega
      have hodd : u % 2 = 1 := by omega
      have h8 : u * u % 8 = 1 := by
        rw [mod_mul]
        rcases (show u % 8 = 1 ∨ u % 8 = 3 ∨ u % 8 = 5 ∨ u % 8 = 7 by omega) with e | e | e | e <;> rw [e] <;> rfl
      generalize s * s % 2 ^ k / 2 ^ vl (s * s) 2 = r at *
      rw [decide_eq_true_eq]
      rcases (show d = 1 ∨ d = 2 ∨ 3 ≤ d by omega) with rfl | rfl | h3
      · rw [show min 3 1 = 1 from rfl]
        have : (2 : Int) ^ 1 = 2 := rfl
        rw [this] at a3 ⊢
        omega
      · rw [show min 3 2 = 2 from rfl]
        have : (2 : Int) ^ 2 = 4 := rfl
        rw [this] at a3 ⊢
        omega
      · rw [show min 3 d = 3 by omega]
        obtain ⟨c, rfl⟩ : ∃ c, d = c + 3 := ⟨d - 3, by omega⟩
        rw [Int.pow_add, show (2 : Int) ^ 3 = 8 from rfl, ← Int.mul_assoc] at a3
        show r % 8 = 1
        omega
/-! ### inverses modulo a power -/
theorem inv_pow {p y : Int} (G : GoodP p) (hy : y % p ≠ 0) : ∀ k : Nat, 1 ≤ k → ∃ i t : Int, y * i = 1 + p ^ k * t
  | 0, h => by omega
  | 1, _ => by
    obtain ⟨b, hb⟩ := G.inv y hy
    refine ⟨b, y * b / p, ?_⟩
    have := Int.mul_ediv_add_emod (y * b) p
    rw [Int.pow_succ, Int.pow_zero, Int.one_mul]
    omega
  | k + 2, _ => by
    obtain ⟨i, t, h⟩ := inv_pow G hy (k + 1) (by omega)
    obtain ⟨b, hb⟩ := G.inv y hy
    have := Int.mul_ediv_add_emod (y * b) p
    generalize y * b / p = q at *
    refine ⟨i - p ^ (k + 1) * t * b, -(t * q), ?_⟩
    have e0 : p ^ (k + 2) = p ^ (k + 1) * p := Int.pow_succ p (k + 1)
    rw [e0]
    clear e0
    generalize p ^ (k + 1) = P at *
    have e : y * b = p * q + 1 := by omega
    have : y * (i - P * t * b) = y * i - P * t * (y * b) := by grind
    rw [this, h, e]
    grind
/-! ### a solution modulo every power -/
def qvV (D A C x y : Int) : Int := D * (x * x) * (x * x) + A * (x * x) * (y * y) + C * (y * y) * (y * y)
theorem dvd_root {p n : Int} (G : GoodP p) (h : p ∣ n * n) : p ∣ n := by
  rcases G.root n n (Int.emod_eq_zero_of_dvd h) with e | e <;> exact Int.dvd_of_emod_eq_zero e
theorem prim {p D A C : Int} (G : GoodP p) : ∀ (N : Nat) (x y n : Int), x.natAbs + y.natAbs ≤ N → (x ≠ 0 ∨ y ≠ 0) → n * n = qvV D A C x y → ∃ x' y' n' : Int, n' * n' = qvV D A C x' y' ∧ (x' % p ≠ 0 ∨ y' % p ≠ 0)
  | 0, x, y, n, h, h0, _ => by omega
  | N + 1, x, y, n, h, h0, hn => by
    have hp := G.two
    by_cases hx : x % p = 0
    · by_cases hy : y % p = 0
      · obtain ⟨a, rfl⟩ := Int.dvd_of_emod_eq_zero hx
        obtain ⟨b, rfl⟩ := Int.dvd_of_emod_eq_zero hy
        have e : qvV D A C (p * a) (p * b) = p * (p * (p * (p * qvV D A C a b))) := by unfold qvV; grind
        rw [e] at hn
        obtain ⟨n1, rfl⟩ := dvd_root G ⟨_, hn⟩
        have e2 : p * (n1 * n1) = p * (p * (p * qvV D A C a b)) := Int.eq_of_mul_eq_mul_left (show p ≠ 0 by omega) (by rw [← hn]; grind)
        have e3 := Int.eq_of_mul_eq_mul_left (show p ≠ 0 by omega) e2
        obtain ⟨n2, rfl⟩ := dvd_root G ⟨_, e3⟩
        have e4 : p * (n2 * n2) = p * qvV D A C a b := Int.eq_of_mul_eq_mul_left (show p ≠ 0 by omega) (by rw [← e3]; grind)
        have e5 := Int.eq_of_mul_eq_mul_left (show p ≠ 0 by omega) e4
        refine prim G N a b n2 ?_ ?_ e5
        · have ha : a.natAbs ≤ (p * a).natAbs ∧ (a ≠ 0 → a.natAbs < (p * a).natAbs) := by
            rw [Int.natAbs_mul]
            have : 2 ≤ p.natAbs := by omega
            refine ⟨Nat.le_mul_of_pos_left _ (by omega), fun h => ?_⟩
            have := Nat.mul_le_mul_right a.natAbs this
            omega
          have hb : b.natAbs ≤ (p * b).natAbs ∧ (b ≠ 0 → b.natAbs < (p * b).natAbs) := by
            rw [Int.natAbs_mul]
            have : 2 ≤ p.natAbs := by omega
            refine ⟨Nat.le_mul_of_pos_left _ (by omega), fun h => ?_⟩
            have := Nat.mul_le_mul_right b.natAbs this
            omega
          rcases h0 with h0 | h0
          · have : a ≠ 0 := fun e => h0 (by rw [e]; simp)
            have := ha.2 this
            omega
          · have : b ≠ 0 := fun e => h0 (by rw [e]; simp)
            have := hb.2 this
            omega
        · rcases h0 with h0 | h0
          · exact .inl fun e => h0 (by rw [e]; simp)
          · exact .inr fun e => h0 (by rw [e]; simp)
      · exact ⟨x, y, n, hn, .inr hy⟩
    · exact ⟨x, y, n, hn, .inl hx⟩
theorem va_cong {D A C m e m' e' n : Int} (h1 : Cg n m m') (h2 : Cg n e e') : vaM D A C m e n = vaM D A C m' e' n := by
  unfold vaM
  have r := Cg.refl n
  exact ((((((r D).mul h1).mul h1).mul h1).mul h1).add (((((r A).mul h1).mul h1).mul h2).mul h2)).add (((((r C).mul h2).mul h2).mul h2).mul h2)
theorem pl_full {p D A C x y n : Int} (G : GoodP p) (h0 : x ≠ 0 ∨ y ≠ 0) (hn : n * n = qvV D A C x y) {k : Nat} (hk : 1 ≤ k) : (pl D A C p k).isEmpty = false := by
  have hp := G.two
  obtain ⟨x, y, n, hn, hxy⟩ := prim (p := p) G _ x y n (Nat.le_refl _) h0 hn
  have hP := pow_pos' (p := p) (by omega) k
  have key : ∃ z, z ∈ pl D A C p k := by
    by_cases hy : y % p = 0
    · have hx : x % p ≠ 0 := by omega
      obtain ⟨i, t, hi⟩ := inv_pow G hx k hk
      refine ⟨(1, y * i % p ^ k), List.mem_append_right _ ?_⟩
      unfold pl2
      rw [List.mem_map]
      refine ⟨y * i % p ^ k, ?_, rfl⟩
      rw [List.mem_filter]
      refine ⟨mem_rg.2 ⟨Int.emod_nonneg _ (by omega), Int.emod_lt_of_pos _ (by omega)⟩, ?_⟩
      rw [Bool.and_eq_true]
      refine ⟨?_, ?_⟩
      · rw [decide_eq_true_eq]
        obtain ⟨c, rfl⟩ : ∃ c, k = c + 1 := ⟨k - 1, by omega⟩
        rw [Int.emod_emod_of_dvd _ ⟨p ^ c, by rw [Int.pow_succ, Int.mul_comm]⟩, mod_mul, hy]
        simp
      · unfold poB
        rw [va_cong (m' := x * i) (e' := y * i) (by unfold Cg; rw [hi, Int.add_mul_emod_self_left]) (by unfold Cg; exact Int.emod_emod _ _)]
        have e : vaM D A C (x * i) (y * i) (p ^ k) = (n * (i * i)) * (n * (i * i)) % p ^ k := by
          unfold vaM
          congr 1
          have : n * (i * i) * (n * (i * i)) = n * n * (i * i * (i * i)) := by grind
          rw [this, hn]
          unfold qvV
          grind
        rw [e]
        exact sq_yes G.toGoodQ
    · obtain ⟨i, t, hi⟩ := inv_pow G hy k hk
      refine ⟨(x * i % p ^ k, 1), List.mem_append_left _ ?_⟩
      unfold pl1
      rw [List.mem_map]
      refine ⟨x * i % p ^ k, ?_, rfl⟩
      rw [List.mem_filter]
      refine ⟨mem_rg.2 ⟨Int.emod_nonneg _ (by omega), Int.emod_lt_of_pos _ (by omega)⟩, ?_⟩
      unfold poB
      rw [va_cong (m' := x * i) (e' := y * i) (by unfold Cg; exact Int.emod_emod _ _) (by unfold Cg; rw [hi, Int.add_mul_emod_self_left])]
      have e : vaM D A C (x * i) (y * i) (p ^ k) = (n * (i * i)) * (n * (i * i)) % p ^ k := by
        unfold vaM
        congr 1
        have : n * (i * i) * (n * (i * i)) = n * n * (i * i * (i * i)) := by grind
        rw [this, hn]
        unfold qvV
        grind
      rw [e]
      exact sq_yes G.toGoodQ
  obtain ⟨z, hz⟩ := key
  cases hl : pl D A C p k
  · rw [hl] at hz; cases hz
  · rfl
/-- where every level has a possible pair, the last one has, too, or a pair lifts -/
theorem lpF_full {D A C p : Int} : ∀ (f k : Nat), 1 ≤ k → (∀ j, k ≤ j → (pl D A C p j).isEmpty = false) → 0 < (lpF D A C p f k).2.1 ∨ (lpF D A C p f k).2.2 = true := by
  intro f
  induction f with
  | zero =>
    intro k hk h
    cases hf : fdL D A C p k with
    | some x => left; rw [lpF_some hf]; dsimp only; omega
    | none => right; rw [lpF_end hf, h k (Nat.le_refl _)]; rfl
  | succ f ih =>
    intro k hk h
    cases hf : fdL D A C p k with
    | some x => left; rw [lpF_some hf]; dsimp only; omega
    | none =>
      rw [lpF_next hf (h k (Nat.le_refl _))]
      exact ih (k + 1) (by omega) fun j hj => h j (by omega)
theorem lp_told {D A C p x y n : Int} (G : GoodP p) (h0 : x ≠ 0 ∨ y ≠ 0) (hn : n * n = qvV D A C x y) : 0 < (lpV D A C p).2.1 ∨ (lpV D A C p).2.2 = true :=
  lpF_full _ 1 (Nat.le_refl _) fun j hj => pl_full G h0 hn hj
/-! ### the pair that is found -/
theorem lpF_pos {D A C p : Int} : ∀ (f k : Nat), 1 ≤ k → 0 < (lpF D A C p f k).2.1 → ∃ j : Nat, k ≤ j ∧ j ≤ k + f ∧ (lpF D A C p f k).2.1 = j ∧ fdL D A C p j = some (lpF D A C p f k).1 := by
  intro f
  induction f with
  | zero =>
    intro k hk h
    cases hf : fdL D A C p k with
    | some x => exact ⟨k, Nat.le_refl _, by omega, by rw [lpF_some hf], by rw [lpF_some hf]; exact hf⟩
    | none => rw [lpF_end hf] at h; simp at h
  | succ f ih =>
    intro k hk h
    cases hf : fdL D A C p k with
    | some x => exact ⟨k, Nat.le_refl _, by omega, by rw [lpF_some hf], by rw [lpF_some hf]; exact hf⟩
    | none =>
      cases he : (pl D A C p k).isEmpty with
      | true => rw [lpF_nil hf he] at h; simp at h
      | false =>
        rw [lpF_next hf he] at h ⊢
        obtain ⟨j, j1, j2, j3, j4⟩ := ih (k + 1) (by omega) h
        exact ⟨j, by omega, by omega, j3, j4⟩
theorem fdL_some {D A C p : Int} {k : Nat} {x : Int × Int} (h : fdL D A C p k = some x) : liB D A C x.1 x.2 p k = true ∧ x ∈ pl D A C p k := by
  unfold fdL at h
  have := List.find?_some (p := fun x : Int × Int => liB D A C x.1 x.2 p k) h
  exact ⟨this, List.mem_of_find?_eq_some h⟩
theorem pl_pair {D A C p : Int} {k : Nat} {x : Int × Int} (hp : 2 ≤ p) (hk : 1 ≤ k) (h : x ∈ pl D A C p k) : (x.2 = 1 ∧ 0 ≤ x.1 ∧ x.1 < p ^ k) ∨ (x.1 = 1 ∧ 0 ≤ x.2 ∧ x.2 < p ^ k ∧ x.2 % p = 0) := by
  unfold pl at h
  rcases List.mem_append.1 h with h | h
  · unfold pl1 at h
    obtain ⟨m, hm, rfl⟩ := List.mem_map.1 h
    have := mem_rg.1 (List.mem_filter.1 hm).1
    exact .inl ⟨rfl, this.1, this.2⟩
  · unfold pl2 at h
    obtain ⟨e, he, rfl⟩ := List.mem_map.1 h
    have h1 := List.mem_filter.1 he
    have := mem_rg.1 h1.1
    have h2 := h1.2
    rw [Bool.and_eq_true, decide_eq_true_eq] at h2
    exact .inr ⟨rfl, this.1, this.2, h2.1⟩
/-! ### a real point -/
def rlP (D A C : Int) : Prop := 0 < D ∨ 0 < C ∨ (0 < A ∧ 4 * D * C ≤ A * A)
theorem sq_nn (x : Int) : 0 ≤ x * x := by
  rcases Int.le_total 0 x with h | h
  · exact Int.mul_nonneg h h
  · exact Int.mul_nonneg_of_nonpos_of_nonpos h h
theorem sq_pos' {x : Int} (h : x ≠ 0) : 0 < x * x := by
  rcases Int.lt_trichotomy x 0 with h1 | h1 | h1
  · have := Int.mul_pos (show 0 < -x by omega) (show 0 < -x by omega)
    rw [Int.neg_mul, Int.mul_neg, Int.neg_neg] at this
    exact this
  · exact (h h1).elim
  · exact Int.mul_pos h1 h1
theorem real_point {D A C x y : Int} (hD : D ≠ 0) (hC : C ≠ 0) (h0 : x ≠ 0 ∨ y ≠ 0) (h : 0 ≤ qvV D A C x y) : rlP D A C := by
  rcases Int.lt_trichotomy D 0 with d | d | d
  · rcases Int.lt_trichotomy C 0 with c | c | c
    · have X0 := sq_nn x
      have Y0 := sq_nn y
      have hXY : 0 < x * x ∨ 0 < y * y := by
        rcases h0 with h0 | h0
        · exact .inl (sq_pos' h0)
        · exact .inr (sq_pos' h0)
      unfold qvV at h
      generalize x * x = X at *
      generalize y * y = Y at *
      have t1 : 0 ≤ -D * X * X := Int.mul_nonneg (Int.mul_nonneg (by omega) X0) X0
      have t2 : 0 ≤ -C * Y * Y := Int.mul_nonneg (Int.mul_nonneg (by omega) Y0) Y0
      have u1 : -D * X * X = -(D * X * X) := by grind
      have u2 : -C * Y * Y = -(C * Y * Y) := by grind
      have hA : 0 < A := by
        rcases (show 0 < A ∨ A ≤ 0 by omega) with a | a
        · exact a
        · exfalso
          have t3 : 0 ≤ -A * X * Y := Int.mul_nonneg (Int.mul_nonneg (by omega) X0) Y0
          have u3 : -A * X * Y = -(A * X * Y) := by grind
          rcases hXY with e | e
          · have := Int.mul_pos (Int.mul_pos (show 0 < -D by omega) e) e
            omega
          · have := Int.mul_pos (Int.mul_pos (show 0 < -C by omega) e) e
            omega
      refine .inr (.inr ⟨hA, ?_⟩)
      have hY : 0 < Y := by
        rcases (show 0 < Y ∨ Y = 0 by omega) with e | e
        · exact e
        · exfalso
          subst e
          have e : 0 < X := by omega
          have := Int.mul_pos (Int.mul_pos (show 0 < -D by omega) e) e
          simp at h
          omega
      have id : 4 * D * (D * X * X + A * X * Y + C * Y * Y) = (2 * D * X + A * Y) * (2 * D * X + A * Y) - (A * A - 4 * D * C) * (Y * Y) := by grind
      have s := sq_nn (2 * D * X + A * Y)
      have t4 : 0 ≤ -D * (D * X * X + A * X * Y + C * Y * Y) := Int.mul_nonneg (by omega) h
      have u4 : -D * (D * X * X + A * X * Y + C * Y * Y) = -(D * (D * X * X + A * X * Y + C * Y * Y)) := Int.neg_mul _ _
      have u5 : 4 * D * (D * X * X + A * X * Y + C * Y * Y) = 4 * (D * (D * X * X + A * X * Y + C * Y * Y)) := Int.mul_assoc _ _ _
      rcases (show 4 * D * C ≤ A * A ∨ A * A - 4 * D * C < 0 by omega) with e | e
      · exact e
      · exfalso
        have := Int.mul_pos (show 0 < -(A * A - 4 * D * C) by omega) (Int.mul_pos hY hY)
        rw [Int.neg_mul] at this
        omega
    · exact (hC c).elim
    · exact .inr (.inl c)
  · exact (hD d).elim
  · exact .inl d
end
section
open Go.RowKit
set_option linter.unusedVariables false
set_option linter.unusedSimpArgs false
/-! ### primes -/
def Pz (q : Int) : Prop := 2 ≤ q ∧ ∀ e : Int, 2 ≤ e → e < q → q % e ≠ 0
theorem pz_cop {q x : Int} (h : Pz q) (hx : ¬ q ∣ x) : Cop q x := cop_of_prime h.1 h.2 hx
theorem Cop.dvd {a b c : Int} (h : Cop a b) (hd : a ∣ b * c) : a ∣ c := by
  have := Int.natAbs_dvd_natAbs.2 hd
  rw [Int.natAbs_mul] at this
  exact Int.natAbs_dvd_natAbs.1 (Nat.Coprime.dvd_of_dvd_mul_left h this)
theorem Cop.sq {a b : Int} (h : Cop a b) : Cop (a * a) (b * b) := by
  unfold Cop at *
  rw [Int.natAbs_mul, Int.natAbs_mul]
  exact Nat.Coprime.mul_left (Nat.Coprime.mul_right h h) (Nat.Coprime.mul_right h h)
theorem pz_mul {q a b : Int} (h : Pz q) (hab : q ∣ a * b) : q ∣ a ∨ q ∣ b := by
  by_cases ha : q ∣ a
  · exact .inl ha
  · exact .inr ((pz_cop h ha).dvd hab)
theorem pz_pow {q a : Int} (h : Pz q) : ∀ k : Nat, q ∣ a ^ k → q ∣ a
  | 0, e => by
    rw [Int.pow_zero] at e
    have := Int.le_of_dvd (by omega) e
    have := h.1
    omega
  | k + 1, e => by
    rw [Int.pow_succ] at e
    rcases pz_mul h e with q | q
    · exact pz_pow h k q
    · exact q
theorem pz_eq {q r : Int} (h : Pz q) (hr : Pz r) (hd : q ∣ r) : q = r := by
  have := Int.le_of_dvd (by have := hr.1; omega) hd
  by_cases e : q = r
  · exact e
  · exact (hr.2 q h.1 (by omega) (Int.emod_eq_zero_of_dvd hd)).elim
theorem prW_pz : ∀ (f : Nat) (n p : Int), msP n p ≤ f → 2 ≤ p → NoDv n p → ∀ x ∈ prW n p, Pz x
  | 0, n, p, h, hp, hd, x, hx => by
    unfold msP at h
    rw [prW_none (by intro q; rw [if_pos q] at h; omega)] at hx; cases hx
  | f + 1, n, p, h, hp, hd, x, hx => by
    by_cases hn : 1 < n
    · have h2 := prW_less hn hp
      have h4 := prQ_bd hn hp
      rw [prW_round hn hp, List.mem_append] at hx
      rcases hx with hx | hx
      · split at hx
        · rename_i hz
          obtain rfl := List.mem_singleton.1 hx
          exact ⟨h4.1, prQ_prime hn hp hd hz⟩
        · cases hx
      · exact prW_pz f _ _ (by omega) (by omega) (noDv_next hn hp hd) x hx
    · rw [prW_none hn] at hx; cases hx
theorem noDv_two (n : Int) : NoDv n 2 := fun e h1 h2 => by omega
theorem prL_pz {n x : Int} (hx : x ∈ prL n) : Pz x := prW_pz _ n 2 (Nat.le_refl _) (by omega) (noDv_two n) x hx
theorem prL_dvd {n x : Int} (hx : x ∈ prL n) : x ∣ n := prW_dvd _ n 2 (Nat.le_refl _) x hx
theorem vl_mulpow {m q r : Int} {k : Nat} (hm : 1 ≤ m) (hr : 2 ≤ r) (hq : Pz q) (hn : ¬ q ∣ r) : vl (m * r ^ k) q = vl m q := by
  obtain ⟨u, e1, e2⟩ := vl_spec hq.1 (show m ≠ 0 by omega)
  have hp := pow_pos' (p := r) (by omega) k
  refine vl_eq (u := u * r ^ k) hq.1 ?_ ?_ ?_
  · exact Int.mul_ne_zero (by omega) (by omega)
  · have : m * r ^ k = u * q ^ vl m q * r ^ k := by rw [← e1]
    rw [this, Int.mul_assoc, Int.mul_assoc, Int.mul_comm (q ^ vl m q)]
  · intro e
    rcases pz_mul hq (Int.dvd_of_emod_eq_zero e) with h | h
    · exact e2 (Int.emod_eq_zero_of_dvd h)
    · exact hn (pz_pow hq k h)
/-! ### the primes that divide it an odd number of times -/
def oL (n : Int) (ps : List Int) : List Int := ps.filter fun p => decide (vl n p % 2 = 1)
theorem oL_cong {n m : Int} : ∀ {ps : List Int}, (∀ q ∈ ps, vl n q = vl m q) → oL n ps = oL m ps
  | [], _ => rfl
  | p :: ps, h => by
    have ih := oL_cong (n := n) (m := m) (ps := ps) (fun q hq => h q (by simp [hq]))
    unfold oL at ih ⊢
    rw [List.filter_cons, List.filter_cons, h p (by simp), ih]
theorem prW_sq : ∀ (f : Nat) (n p : Int), msP n p ≤ f → 1 ≤ n → 2 ≤ p → NoDv n p → ∃ s : Int, 1 ≤ s ∧ n = s * s * prodL (oL n (prW n p))
  | f, n, p, hf, h1, hp, hd => by
    by_cases hn : 1 < n
    · cases f with
      | zero => unfold msP at hf; rw [if_pos hn] at hf; omega
      | succ f =>
        have h2 := prW_less hn hp
        have h4 := prQ_bd hn hp
        have hs := strip_le (n := n) (q := prQ n p) h1 h4.1
        have hnx := noDv_next hn hp hd
        obtain ⟨s, s1, s2⟩ := prW_sq f _ _ (by omega) hs.1 (by omega) hnx
        rw [prW_round hn hp]
        by_cases hz : n % prQ n p = 0
        · rw [if_pos hz]
          have hq : Pz (prQ n p) := ⟨h4.1, prQ_prime hn hp hd hz⟩
          have hdv := (vl_div h4.1 (show n ≠ 0 by omega)).1
          rw [show n / prQ n p ^ vl n (prQ n p) = strip n (prQ n p) from rfl] at hdv
          have hc : oL n (prW (strip n (prQ n p)) (prQ n p + 1)) = oL (strip n (prQ n p)) (prW (strip n (prQ n p)) (prQ n p + 1)) := oL_cong fun q hq2 => by
            have z1 := prW_pz _ _ _ (Nat.le_refl _) (by omega) hnx q hq2
            have z2 := prW_dvd _ _ _ (Nat.le_refl _) q hq2
            have z3 : ¬ q ∣ prQ n p := fun e => by
              have e2 := pz_eq z1 hq e
              exact hnx q z1.1 (by omega) (Int.emod_eq_zero_of_dvd z2)
            have := vl_mulpow (k := vl n (prQ n p)) hs.1 h4.1 z1 z3
            rw [← hdv] at this
            exact this
          generalize hR : prW (strip n (prQ n p)) (prQ n p + 1) = R at *
          generalize hm : strip n (prQ n p) = m at *
          generalize hk : vl n (prQ n p) = k at *
          generalize hqq : prQ n p = q at *
          have hcons : oL n ([q] ++ R) = if k % 2 = 1 then q :: oL n R else oL n R := by
            unfold oL
            rw [List.singleton_append, List.filter_cons, hk]
            by_cases e : k % 2 = 1
            · rw [if_pos (decide_eq_true e), if_pos e]
            · rw [if_neg (by simpa using e), if_neg e]
          have hpp := pow_pos' (p := q) (by omega) (k / 2)
          have hsq : q ^ (k / 2 + k / 2) = q ^ (k / 2) * q ^ (k / 2) := Int.pow_add ..
          refine ⟨s * q ^ (k / 2), Int.mul_le_mul s1 hpp (by omega) (by omega), ?_⟩
          rw [hcons, hc]
          by_cases e : k % 2 = 1
          · rw [if_pos e]
            show n = s * q ^ (k / 2) * (s * q ^ (k / 2)) * (q * prodL (oL m R))
            have e2 : q ^ k = q ^ (k / 2) * q ^ (k / 2) * q := by
              rw [← hsq, ← Int.pow_succ]; congr 1; omega
            rw [e2] at hdv
            rw [hdv, s2]
            generalize q ^ (k / 2) = y
            grind
          · rw [if_neg e]
            have e2 : q ^ k = q ^ (k / 2) * q ^ (k / 2) := by
              rw [← hsq]; congr 1; omega
            rw [e2] at hdv
            generalize prodL (oL m R) = X at *
            rw [hdv, s2]
            generalize q ^ (k / 2) = y
            grind
        · rw [if_neg hz, List.nil_append]
          have hst := strip_miss h1 h4.1 hz
          rw [hst] at s2 ⊢
          exact ⟨s, s1, s2⟩
    · obtain rfl : n = 1 := by omega
      rw [prW_none (by omega)]
      exact ⟨1, by omega, by simp [oL, prodL]⟩
/-! ### squarefree numbers -/
def SF (c : Int) : Prop := ∀ k : Int, k * k ∣ c → k.natAbs = 1
theorem sf_one : SF 1 := fun k h => by
  have h1 := Int.natAbs_dvd_natAbs.2 h
  rw [Int.natAbs_mul] at h1
  have := Nat.eq_one_of_mul_eq_one_right (Nat.dvd_one.1 h1)
  exact this
theorem sf_neg {c : Int} (h : SF c) : SF (-c) := fun k hk => h k (Int.dvd_neg.1 hk)
theorem sf_mul {q c : Int} (h : Pz q) (hc : ¬ q ∣ c) (hs : SF c) : SF (q * c) := fun k hk => by
  by_cases hq : q ∣ k
  · exfalso
    obtain ⟨t, rfl⟩ := hq
    obtain ⟨z, hz⟩ := hk
    have h2 := h.1
    have : c = q * (t * t * z) := by
      have e : q * c = q * (q * (t * t * z)) := by rw [hz]; grind
      exact Int.eq_of_mul_eq_mul_left (by omega) e
    exact hc ⟨_, this⟩
  · have h1 := pz_cop h hq
    refine hs k (Cop.dvd (b := q) ?_ hk)
    unfold Cop at *
    rw [Int.natAbs_mul]
    exact (Nat.Coprime.mul_right h1 h1).symm
theorem prodL_dvd {q : Int} (h : Pz q) : ∀ {l : List Int}, q ∣ prodL l → ∃ r ∈ l, q ∣ r
  | [], e => by
    have := Int.le_of_dvd (by decide) (show q ∣ 1 from e)
    have := h.1
    omega
  | x :: l, e => by
    rcases pz_mul h (show q ∣ x * prodL l from e) with z | z
    · exact ⟨x, by simp, z⟩
    · obtain ⟨r, r1, r2⟩ := prodL_dvd h z
      exact ⟨r, by simp [r1], r2⟩
theorem sf_list : ∀ {l : List Int}, (∀ q ∈ l, Pz q) → l.Pairwise (· ≠ ·) → SF (prodL l)
  | [], _, _ => sf_one
  | x :: l, h, hp => by
    rw [List.pairwise_cons] at hp
    refine sf_mul (h x (by simp)) (fun e => ?_) (sf_list (fun q hq => h q (by simp [hq])) hp.2)
    obtain ⟨r, r1, r2⟩ := prodL_dvd (h x (by simp)) e
    exact hp.1 r r1 (pz_eq (h x (by simp)) (h r (by simp [r1])) r2)
theorem sq_one {u : Int} (h : u.natAbs = 1) : u * u = 1 := by
  rcases Int.natAbs_eq u with e | e <;> rw [e, h] <;> rfl
theorem sq_uniq {c d u v : Int} (hc : SF c) (hd : SF d) (hu : u ≠ 0) (hv : v ≠ 0) (h : c * (u * u) = d * (v * v)) : c = d := by
  have hg : 0 < Int.gcd u v := Int.gcd_pos_of_ne_zero_left v hu
  obtain ⟨a, ha⟩ : ((Int.gcd u v : Nat) : Int) ∣ u := Int.gcd_dvd_left ..
  obtain ⟨b, hb⟩ : ((Int.gcd u v : Nat) : Int) ∣ v := Int.gcd_dvd_right ..
  have hab : Int.gcd a b = 1 := by
    have e := Int.gcd_mul_left ((Int.gcd u v : Nat) : Int) a b
    rw [← ha, ← hb, Int.natAbs_natCast] at e
    have : Int.gcd u v * 1 = Int.gcd u v * Int.gcd a b := by omega
    exact (Nat.eq_of_mul_eq_mul_left hg this).symm
  generalize ((Int.gcd u v : Nat) : Int) = g at *
  have hg0 : g ≠ 0 := by intro e; rw [e, Int.zero_mul] at ha; exact hu ha
  have h2 : c * (a * a) = d * (b * b) := by
    have e : (g * g) * (c * (a * a)) = (g * g) * (d * (b * b)) := by
      rw [ha, hb] at h
      generalize u = x at *
      grind
    exact Int.eq_of_mul_eq_mul_left (Int.mul_ne_zero hg0 hg0) e
  have k1 : Cop a b := hab
  have k2 : Cop b a := by unfold Cop at *; exact k1.symm
  have a1 : a.natAbs = 1 := hd a (Cop.dvd (b := b * b) k1.sq ⟨c, by rw [Int.mul_comm (b * b), ← h2, Int.mul_comm]⟩)
  have b1 : b.natAbs = 1 := hc b (Cop.dvd (b := a * a) k2.sq ⟨d, by rw [Int.mul_comm (a * a), h2, Int.mul_comm]⟩)
  rw [sq_one a1, sq_one b1, Int.mul_one, Int.mul_one] at h2
  exact h2
/-! ### the divisors -/
theorem prW_prodL : ∀ (f : Nat) (n p : Int), msP n p ≤ f → 1 ≤ n → 2 ≤ p → prodL (prW n p) ∣ n
  | 0, n, p, h, h1, hp => by
    unfold msP at h
    rw [prW_none (by intro q; rw [if_pos q] at h; omega)]
    exact ⟨n, by simp [prodL]⟩
  | f + 1, n, p, h, h1, hp => by
    by_cases hn : 1 < n
    · have h2 := prW_less hn hp
      have h4 := prQ_bd hn hp
      have h5 := strip_le (n := n) (q := prQ n p) (by omega) h4.1
      obtain ⟨z, hz⟩ := prW_prodL f (strip n (prQ n p)) (prQ n p + 1) (by omega) h5.1 (by omega)
      rw [prW_round hn hp]
      have h7 := (vl_div h4.1 (show n ≠ 0 by omega))
      rw [show n / prQ n p ^ vl n (prQ n p) = strip n (prQ n p) from rfl] at h7
      by_cases hq : n % prQ n p = 0
      · rw [if_pos hq]
        show prQ n p * prodL (prW (strip n (prQ n p)) (prQ n p + 1)) ∣ n
        have h9 : 1 ≤ vl n (prQ n p) := by
          rcases Nat.eq_zero_or_pos (vl n (prQ n p)) with h0 | h0
          · have e := h7.1
            rw [h0, Int.pow_zero, Int.mul_one] at e
            exact (h7.2 (by rw [← e]; exact hq)).elim
          · exact h0
        obtain ⟨j, hj⟩ : ∃ j, vl n (prQ n p) = j + 1 := ⟨vl n (prQ n p) - 1, by omega⟩
        have e := h7.1
        rw [hj, Int.pow_succ, hz] at e
        refine ⟨z * prQ n p ^ j, ?_⟩
        rw [← hz] at e
        generalize prodL (prW (strip n (prQ n p)) (prQ n p + 1)) = P at *
        generalize prQ n p = q at *
        generalize q ^ j = y at *
        rw [hz] at e
        rw [e]
        grind
      · rw [if_neg hq, List.nil_append]
        exact Int.dvd_trans ⟨z, hz⟩ (strip_dvd h1 h4.1)
    · rw [prW_none hn]
      exact ⟨n, by simp [prodL]⟩
theorem prL_prodL {n : Int} (h : 1 ≤ n) : prodL (prL n) ∣ n := prW_prodL _ n 2 (Nat.le_refl _) h (by omega)
theorem dvA_dvd {M : Int} : ∀ {ps l : List Int}, (∀ y ∈ l, y * prodL ps ∣ M) → ∀ x ∈ dvA l ps, x ∣ M
  | [], l, h, x, hx => by
    have := h x hx
    rwa [show prodL [] = 1 from rfl, Int.mul_one] at this
  | p :: ps, l, h, x, hx => by
    refine dvA_dvd (ps := ps) (l := dvS l p) (fun y hy => ?_) x hx
    rcases dvS_mem.1 hy with e | ⟨z, z1, z2⟩
    · have := h y e
      exact Int.dvd_trans ⟨p, by show y * (p * prodL ps) = _; grind⟩ this
    · have := h z z1
      rw [← z2]
      rw [show z * p * prodL ps = z * prodL (p :: ps) by show _ = z * (p * prodL ps); grind]
      exact this
theorem dvR_dvd {n : Int} (h : 1 ≤ n) {x : Int} (hx : x ∈ dvR n) : x ∣ n := by
  refine Int.dvd_trans (dvA_dvd (M := prodL (prL n)) (fun y hy => ?_) x ((dvR_mem n x).2 hx)) (prL_prodL h)
  simp only [List.mem_cons, List.not_mem_nil, or_false] at hy
  rcases hy with rfl | rfl
  · exact ⟨-1, by grind⟩
  · rw [Int.one_mul]; exact Int.dvd_refl _
theorem dvA_neg : ∀ {ps l : List Int}, (∀ x, x ∈ l → -x ∈ l) → ∀ x, x ∈ dvA l ps → -x ∈ dvA l ps
  | [], l, h, x, hx => h x hx
  | p :: ps, l, h, x, hx => dvA_neg (ps := ps) (l := dvS l p) (fun y hy => by
    rcases dvS_mem.1 hy with e | ⟨z, z1, z2⟩
    · exact dvS_mem.2 (.inl (h y e))
    · exact dvS_mem.2 (.inr ⟨-z, h z z1, by rw [← z2, Int.neg_mul]⟩)) x hx
theorem dvR_neg {n x : Int} (h : x ∈ dvR n) : -x ∈ dvR n := (dvR_mem n _).1 (dvA_neg (fun y hy => by
  simp only [List.mem_cons, List.not_mem_nil, or_false] at hy ⊢
  omega) x ((dvR_mem n x).2 h))
theorem dvR_rev (n : Int) : ((dvR n).map (- ·)).reverse = dvR n := by
  refine sorted_ext ?_ (dvR_sorted n) fun x => ?_
  · rw [List.pairwise_reverse, List.pairwise_map]
    exact (dvR_sorted n).imp fun h => by omega
  · rw [List.mem_reverse, List.mem_map]
    constructor
    · rintro ⟨y, y1, rfl⟩; exact dvR_neg y1
    · intro h; exact ⟨-x, dvR_neg h, by omega⟩
theorem dvR_at {n : Int} {i : Nat} (h : i < (dvR n).length) : (dvR n)[(dvR n).length - 1 - i]?.getD 0 = -((dvR n)[i]?.getD 0) := by
  have e := dvR_rev n
  have h2 : ((dvR n).map (- ·)).reverse[(dvR n).length - 1 - i]?.getD 0 = -((dvR n)[i]?.getD 0) := by
    rw [List.getElem?_reverse (by rw [List.length_map]; omega), List.length_map, show (dvR n).length - 1 - ((dvR n).length - 1 - i) = i by omega, List.getElem?_map, List.getElem?_eq_getElem h]
    rfl
  rw [e] at h2
  exact h2
theorem sorted_at {l : List Int} {i : Nat} (hs : l.Pairwise (· < ·)) (h : i + 1 < l.length) : l[i]?.getD 0 < l[i + 1]?.getD 0 := by
  rw [List.getElem?_eq_getElem h, List.getElem?_eq_getElem (by omega)]
  exact List.pairwise_iff_getElem.1 hs i (i + 1) (by omega) h (by omega)
end
end Go.Proofs.Ytnemnkbcbokafaa
