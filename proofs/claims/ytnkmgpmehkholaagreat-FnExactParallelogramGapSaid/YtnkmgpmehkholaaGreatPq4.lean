/- Lemmas and contracts of functions. No condition. -/
import Derived.Test.YtnkmgpmehkholaaGreatPq2
namespace Go.Proofs.YtnkmgpmehkholaaGreat
section
open Go.RowKit
set_option linter.unusedVariables false
set_option linter.unusedSimpArgs false

/-! ### how often a number divides -/
theorem pow_pos' {p : Int} (hp : 1 ≤ p) (n : Nat) : 1 ≤ p ^ n := by
  have := Int.pow_pos (m := n) (show 0 < p by omega); omega
theorem pow_mono' {p : Int} (hp : 1 ≤ p) {m n : Nat} (h : m ≤ n) : p ^ m ≤ p ^ n := by
  obtain ⟨d, rfl⟩ := Nat.exists_eq_add_of_le h
  rw [Int.pow_add]
  have h1 := pow_pos' hp m
  have h2 := pow_pos' hp d
  have := Int.mul_le_mul_of_nonneg_left h2 (show 0 ≤ p ^ m by omega)
  omega
/-! ### squares modulo a power of a prime -/
/-! ### congruences -/
def Cg (n a b : Int) : Prop := a % n = b % n
theorem Cg.refl (n a : Int) : Cg n a a := rfl
theorem Cg.add {n a b c d : Int} (h1 : Cg n a b) (h2 : Cg n c d) : Cg n (a + c) (b + d) := by unfold Cg at *; rw [Int.add_emod, h1, h2, ← Int.add_emod]
end
section
open Go.RowKit
set_option linter.unusedVariables false
set_option linter.unusedSimpArgs false
theorem Cg.symm {n a b : Int} (h : Cg n a b) : Cg n b a := Eq.symm h
theorem Cg.trans {n a b c : Int} (h : Cg n a b) (k : Cg n b c) : Cg n a c := Eq.trans h k
/-! ### powers modulo a number, by halving -/
/-! ### primes -/
/-! ### the depth of a prime -/
end
end Go.Proofs.YtnkmgpmehkholaaGreat
