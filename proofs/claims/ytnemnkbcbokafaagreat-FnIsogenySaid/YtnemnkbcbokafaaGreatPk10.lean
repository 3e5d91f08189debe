/- Lemmas and contracts of functions. No condition. -/
import Derived.Test.YtnemnkbcbokafaaGreatPk5
import Derived.Test.YtnemnkbcbokafaaGreatPk9
namespace Go.Proofs.YtnemnkbcbokafaaGreat
open Go.RowKit
set_option linter.unusedVariables false
set_option linter.unusedSimpArgs false

/-! ### lengths -/
def ln (z : Int) : Nat := (limbs (ab z)).length
theorem ln_le {z : Int} {k : Nat} : ln z ≤ k ↔ ab z < 10000 ^ k := limbs_len
theorem ab_lt (z : Int) : ab z < 10000 ^ ln z := ln_le.1 (Nat.le_refl _)
theorem ab_mul (a b : Int) : ab (a * b) = ab a * ab b := by unfold ab; rw [Int.natAbs_mul]; push_cast; rfl
theorem ab_add (a b : Int) : ab (a + b) ≤ ab a + ab b := by unfold ab; omega
theorem ab_neg (a : Int) : ab (-a) = ab a := by unfold ab; omega
theorem ln_neg (a : Int) : ln (-a) = ln a := by unfold ln; rw [ab_neg]
theorem ln_mul (a b : Int) : ln (a * b) ≤ ln a + ln b := by
  rw [ln_le, ab_mul, Int.pow_add]
  exact Int.mul_lt_mul' (Int.le_of_lt (ab_lt a)) (ab_lt b) (ab_nonneg b) (p4_pos _)
theorem ln_mul_le {a b : Int} {i k : Nat} (ha : ln a ≤ i) (hb : ln b ≤ k) : ln (a * b) ≤ i + k := Nat.le_trans (ln_mul a b) (by omega)
theorem ln_add_le {a b : Int} {k : Nat} (ha : ln a ≤ k) (hb : ln b ≤ k) : ln (a + b) ≤ k + 1 := by
  rw [ln_le] at *
  have := ab_add a b
  have h := p4_pos k
  rw [Int.pow_succ]
  omega
theorem ln_mono {a b : Int} (h : ab a ≤ ab b) : ln a ≤ ln b := ln_le.2 (Int.lt_of_le_of_lt h (ab_lt b))
theorem ln_small {a : Int} (h1 : -9223372036854775808 ≤ a) (h2 : a ≤ 9223372036854775808) : ln a ≤ 5 := by
  rw [ln_le]; unfold ab
  have : (10000 : Int) ^ 5 = 100000000000000000000 := by decide
  omega
/-! ### the sums of the doubling -/
def topZ (A B x z : Int) : Int := x * x * (x * x) - x * x * (z * z) * (2 * A) - x * z * (z * z) * (8 * B) + z * z * (z * z) * (A * A)
def botZ (A B x z : Int) : Int := z * (x * x * x + x * (z * z) * A + z * (z * z) * B) * 4
/-! ### the divisor -/
def dvZ (n t b : Int) : Int := gcdI (gcdI n t) b
/-! ### doubled ratios -/
def raB (x z : Int) : Bool := decide (ln x ≤ 80) && (decide (ln z ≤ 80) && decide (0 < z))
def sgZ (b t : Int) : Int := if b < 0 then -t else t
def dbN (n t b : Int) : Int := sgZ b (t / dvZ n t b)
def dbD (n t b : Int) : Int := sgZ b (b / dvZ n t b)
/-- what has become of a point that was doubled some times -/
inductive RSt where
  | inf
  | bad
  | at (x z : Int)
def stp (n A B : Int) : RSt → RSt
  | .inf => .inf
  | .bad => .bad
  | .at x z => if botZ A B x z = 0 then .inf else if raB (dbN n (topZ A B x z) (botZ A B x z)) (dbD n (topZ A B x z) (botZ A B x z)) = true then .at (dbN n (topZ A B x z) (botZ A B x z)) (dbD n (topZ A B x z) (botZ A B x z)) else .bad
def run (n A B x z : Int) : Nat → RSt
  | 0 => .at x z
  | k + 1 => stp n A B (run n A B x z k)
end Go.Proofs.YtnemnkbcbokafaaGreat
