/- Plain words on residues, powers of primes and pairs that lift. No program in sight. -/
import Derived.Test.YtegiddpakocodaaBase
namespace Go.Proofs.Ytegiddpakocodaa
open Go.RowKit
set_option linter.unusedVariables false
set_option linter.unusedSimpArgs false

/-! ### how often a number divides -/
def vlF : Nat → Int → Int → Nat
  | 0, _, _ => 0
  | f + 1, a, p => if a % p = 0 then vlF f (a / p) p + 1 else 0
def vl (a p : Int) : Nat := vlF a.natAbs a p
theorem natAbs_ediv_lt {a p : Int} (ha : a ≠ 0) (hp : 2 ≤ p) (h : a % p = 0) : (a / p).natAbs < a.natAbs ∧ a / p ≠ 0 := by
  have h1 : a / p * p = a := Int.ediv_mul_cancel (Int.dvd_of_emod_eq_zero h)
  generalize a / p = q at h1
  subst h1
  have hq : q ≠ 0 := by intro e; subst e; simp at ha
  refine ⟨?_, hq⟩
  rw [Int.natAbs_mul]
  have : 0 < q.natAbs := by omega
  have h2 : q.natAbs * 2 ≤ q.natAbs * p.natAbs := Nat.mul_le_mul_left _ (by omega)
  omega
theorem vlF_spec {p : Int} (hp : 2 ≤ p) : ∀ (f : Nat) (a : Int), a ≠ 0 → a.natAbs ≤ f → ∃ u, a = u * p ^ vlF f a p ∧ u % p ≠ 0
  | 0, a, ha, hf => by omega
  | f + 1, a, ha, hf => by
    unfold vlF
    split
    · rename_i h
      have h2 := natAbs_ediv_lt ha hp h
      obtain ⟨u, hu, hu2⟩ := vlF_spec hp f (a / p) h2.2 (by omega)
      refine ⟨u, ?_, hu2⟩
      rw [Int.pow_succ, ← Int.mul_assoc, ← hu, Int.ediv_mul_cancel (Int.dvd_of_emod_eq_zero h)]
    · rename_i h
      exact ⟨a, by simp, h⟩
theorem vl_spec {a p : Int} (hp : 2 ≤ p) (ha : a ≠ 0) : ∃ u, a = u * p ^ vl a p ∧ u % p ≠ 0 := vlF_spec hp _ a ha (Nat.le_refl _)
theorem vlF_eq {p : Int} (hp : 2 ≤ p) : ∀ (n f : Nat) (a u : Int), a ≠ 0 → a.natAbs ≤ f → a = u * p ^ n → u % p ≠ 0 → vlF f a p = n
  | n, 0, a, u, ha, hf, _, _ => by omega
  | 0, f + 1, a, u, ha, hf, h, hu => by
    simp at h; subst h
    simp [vlF, hu]
  | n + 1, f + 1, a, u, ha, hf, h, hu => by
    have h1 : a = (u * p ^ n) * p := by rw [h, Int.pow_succ]; rw [Int.mul_assoc]
    have h2 : a % p = 0 := by rw [h1]; exact Int.mul_emod_left _ _
    have h3 : a / p = u * p ^ n := by rw [h1]; exact Int.mul_ediv_cancel _ (by omega)
    have h4 := natAbs_ediv_lt ha hp h2
    unfold vlF
    rw [if_pos h2, vlF_eq hp n f (a / p) u h4.2 (by omega) h3 hu]
theorem vl_eq {p a u : Int} {n : Nat} (hp : 2 ≤ p) (ha : a ≠ 0) (h : a = u * p ^ n) (hu : u % p ≠ 0) : vl a p = n := vlF_eq hp n _ a u ha (Nat.le_refl _) h hu
theorem pow_pos' {p : Int} (hp : 1 ≤ p) (n : Nat) : 1 ≤ p ^ n := by
  have := Int.pow_pos (m := n) (show 0 < p by omega); omega
theorem pow_mono' {p : Int} (hp : 1 ≤ p) {m n : Nat} (h : m ≤ n) : p ^ m ≤ p ^ n := by
  obtain ⟨d, rfl⟩ := Nat.exists_eq_add_of_le h
  rw [Int.pow_add]
  have h1 := pow_pos' hp m
  have h2 := pow_pos' hp d
  have := Int.mul_le_mul_of_nonneg_left h2 (show 0 ≤ p ^ m by omega)
  omega
/-- a residue that is not 0 has fewer factors than the modulus -/
theorem vl_lt {a p : Int} {k : Nat} (hp : 2 ≤ p) (h1 : 0 < a) (h2 : a < p ^ k) : vl a p < k := by
  obtain ⟨u, hu, _⟩ := vl_spec hp (show a ≠ 0 by omega)
  rcases Nat.lt_or_ge (vl a p) k with h | h
  · exact h
  · exfalso
    have h3 := pow_mono' (p := p) (by omega) h
    have h4 : 0 < u := by
      rcases Int.lt_or_le 0 u with x | x
      · exact x
      · have h5 := pow_pos' (p := p) (by omega) (vl a p)
        have := Int.mul_nonpos_of_nonpos_of_nonneg x (show 0 ≤ p ^ vl a p by omega)
        omega
    have h5 : 1 * p ^ vl a p ≤ u * p ^ vl a p := Int.mul_le_mul_of_nonneg_right (by omega) (by have := pow_pos' (p := p) (by omega) (vl a p); omega)
    omega
theorem vl_div {a p : Int} (hp : 2 ≤ p) (ha : a ≠ 0) : a = (a / p ^ vl a p) * p ^ vl a p ∧ (a / p ^ vl a p) % p ≠ 0 := by
  obtain ⟨u, hu, hu2⟩ := vl_spec hp ha
  have h1 := pow_pos' (p := p) (by omega) (vl a p)
  have : a / p ^ vl a p = u := by
    conv => lhs; arg 1; rw [hu]
    exact Int.mul_ediv_cancel _ (by omega)
  rw [this]; exact ⟨hu, hu2⟩

/-! ### squares modulo a power of a prime -/
def symB (a p : Int) : Bool := decide (a ^ ((p - 1) / 2).toNat % p = 1)
def sqLo (n p : Int) (k : Nat) : Bool := if n = 0 then true else if vl n p % 2 = 1 then false else if 2 < p then symB (n / p ^ vl n p) p else decide ((n / p ^ vl n p) % 2 ^ (min 3 (k - vl n p)) = 1)
def oft (n p : Int) (k : Nat) : Nat := if n = 0 then k else min k (vl n p)
theorem oft_zero (p : Int) (k : Nat) : oft 0 p k = k := by simp [oft]
theorem oft_pos {n p : Int} {k : Nat} (hp : 2 ≤ p) (h1 : 0 < n) (h2 : n < p ^ k) : oft n p k = vl n p := by
  have := vl_lt hp h1 h2
  unfold oft; rw [if_neg (by omega)]; omega
def vaM (d a c m e n : Int) : Int := (d * m * m * m * m + a * m * m * e * e + c * e * e * e * e) % n
def dmM (d a m e n : Int) : Int := (4 * d * m * m * m + 2 * a * m * e * e) % n
def deM (a c m e n : Int) : Int := (2 * a * m * m * e + 4 * c * e * e * e) % n
def poB (d a c m e p : Int) (k : Nat) : Bool := sqLo (vaM d a c m e (p ^ k)) p k
def hlf (v p : Int) : Nat := vl v p / 2 + if p = 2 then 1 else 0
def liW (d a c m e p : Int) (k : Nat) : Nat :=
  let w := min (oft (dmM d a m e (p ^ k)) p k) (oft (deM a c m e (p ^ k)) p k)
  if vaM d a c m e (p ^ k) = 0 then w else min w (hlf (vaM d a c m e (p ^ k)) p)
def liB (d a c m e p : Int) (k : Nat) : Bool := poB d a c m e p k && decide (2 * liW d a c m e p k + 1 ≤ k)

/-! ### congruences -/
def Cg (n a b : Int) : Prop := a % n = b % n
theorem Cg.refl (n a : Int) : Cg n a a := rfl
theorem Cg.add {n a b c d : Int} (h1 : Cg n a b) (h2 : Cg n c d) : Cg n (a + c) (b + d) := by unfold Cg at *; rw [Int.add_emod, h1, h2, ← Int.add_emod]
theorem Cg.mul {n a b c d : Int} (h1 : Cg n a b) (h2 : Cg n c d) : Cg n (a * c) (b * d) := by unfold Cg at *; rw [Int.mul_emod, h1, h2, ← Int.mul_emod]
theorem Cg.mod {n a b : Int} (h : Cg n a b) : Cg n (a % n) b := by unfold Cg at *; rw [Int.emod_emod, h]
theorem Cg.to {n a b c : Int} (h : Cg n a b) (e : b = c) : a % n = c % n := by subst e; exact h
theorem va_spec (D A C m e n : Int) : ((D % n) * ((m * m % n) * (m * m % n) % n) % n + (A % n) * ((m * m % n) * (e * e % n) % n) % n + (C % n) * ((e * e % n) * (e * e % n) % n) % n) % n = vaM D A C m e n := by
  unfold vaM
  refine Cg.to (b := D * (m * m * (m * m)) + A * (m * m * (e * e)) + C * (e * e * (e * e))) ?_ (by grind)
  repeat (first | exact Cg.refl _ _ | apply Cg.mod | apply Cg.add | apply Cg.mul)
theorem dm_spec (D A m e n : Int) : (4 * ((D % n) * ((m * m % n) * m % n) % n) + 2 * ((A % n) * (m * (e * e % n) % n) % n)) % n = dmM D A m e n := by
  unfold dmM
  refine Cg.to (b := 4 * (D * (m * m * m)) + 2 * (A * (m * (e * e)))) ?_ (by grind)
  repeat (first | exact Cg.refl _ _ | apply Cg.mod | apply Cg.add | apply Cg.mul)
theorem de_spec (A C m e n : Int) : (2 * ((A % n) * ((m * m % n) * e % n) % n) + 4 * ((C % n) * ((e * e % n) * e % n) % n)) % n = deM A C m e n := by
  unfold deM
  refine Cg.to (b := 2 * (A * (m * m * e)) + 4 * (C * (e * e * e))) ?_ (by grind)
  repeat (first | exact Cg.refl _ _ | apply Cg.mod | apply Cg.add | apply Cg.mul)
/-- the product of numbers modulo n -/
def prM (zs : List Int) (n : Int) : Int := zs.foldl (fun o x => o * x) 1 % n
theorem va_impl (D A C m e n : Int) : (prM [D, m, m, m, m] n + prM [A, m, m, e, e] n + prM [C, e, e, e, e] n) % n = vaM D A C m e n := by
  unfold vaM prM
  refine Cg.to (b := D * m * m * m * m + A * m * m * e * e + C * e * e * e * e) ?_ rfl
  simp only [List.foldl, Int.one_mul]
  repeat (first | exact Cg.refl _ _ | apply Cg.mod | apply Cg.add | apply Cg.mul)
theorem dm_impl (D A m e n : Int) : (prM [4, D, m, m, m] n + prM [2, A, m, e, e] n) % n = dmM D A m e n := by
  unfold dmM prM
  refine Cg.to (b := 4 * D * m * m * m + 2 * A * m * e * e) ?_ rfl
  simp only [List.foldl, Int.one_mul]
  repeat (first | exact Cg.refl _ _ | apply Cg.mod | apply Cg.add | apply Cg.mul)
theorem de_impl (A C m e n : Int) : (prM [2, A, m, m, e] n + prM [4, C, e, e, e] n) % n = deM A C m e n := by
  unfold deM prM
  refine Cg.to (b := 2 * A * m * m * e + 4 * C * e * e * e) ?_ rfl
  simp only [List.foldl, Int.one_mul]
  repeat (first | exact Cg.refl _ _ | apply Cg.mod | apply Cg.add | apply Cg.mul)
theorem prM_take (zs : List Int) (n : Int) (k : Nat) (h : k < zs.length) : prM (zs.take (k + 1)) n = prM (zs.take k) n * (zs[k] % n) % n := by
  unfold prM
  rw [List.take_succ_eq_append_getElem h, List.foldl_append]
  simp only [List.foldl]
  have := Cg.mul (Cg.mod (Cg.refl n (List.foldl (fun o x => o * x) 1 (List.take k zs)))) (Cg.mod (Cg.refl n zs[k]))
  exact this.symm
theorem prM_bd (zs : List Int) {n : Int} (h : 0 < n) : 0 ≤ prM zs n ∧ prM zs n < n := ⟨Int.emod_nonneg _ (by omega), Int.emod_lt_of_pos _ h⟩
end Go.Proofs.Ytegiddpakocodaa
