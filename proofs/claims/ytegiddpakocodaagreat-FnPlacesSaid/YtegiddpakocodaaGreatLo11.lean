/- LiftsModulo: both sides, and the walk of the law. -/
import Derived.Test.YtegiddpakocodaaGreatLo10
import Derived.Test.YtegiddpakocodaaGreatToL
namespace Go.Proofs.YtegiddpakocodaaGreat
open Go.RowKit
set_option linter.unusedVariables false
set_option maxHeartbeats 4000000
set_option maxRecDepth 20000
set_option linter.unusedSimpArgs false
theorem top_exists {p : Int} (hp : 2 ≤ p) : ∀ f : Nat, 1000000000 < p ^ f → ∃ k, p ^ k ≤ 1000000000 ∧ 1000000000 < p ^ (k + 1)
  | 0, h => by simp at h
  | f + 1, h => by
    by_cases h2 : p ^ f ≤ 1000000000
    · exact ⟨f, h2, h⟩
    · exact top_exists hp f (by omega)
theorem dp_pow {p : Int} (hp : 2 ≤ p) {k : Nat} (h : k ≤ dp p) : p ^ k ≤ 1000000000 := by
  have h31 : 1000000000 < p ^ 31 := by
    have h1 := pow_base hp 31
    have h3 : (2 : Int) ^ 31 = 2147483648 := by decide
    omega
  obtain ⟨j, h1, h2⟩ := top_exists hp 31 h31
  rw [dp_eq hp h1 h2] at h
  have := pow_mono' (p := p) (by omega) h
  omega
theorem dp_lt {p : Int} (hp : 2 ≤ p) : dp p < 31 := depth_lt hp (dp_pow hp (Nat.le_refl _))
theorem mdPB_bd {p : Int} (h : mdPB p = true) : 2 ≤ p ∧ p ≤ 997 ∧ inB p 2 997 = true ∧ primeB p = true := by
  simp only [mdPB, Bool.and_eq_true] at h
  have := inB_iff.1 h.1
  exact ⟨this.1, this.2, h.1, h.2⟩
theorem deB_bd {p k : Int} (h : deB p k = true) : mdPB p = true ∧ inB k 1 (dp p) = true ∧ ∃ n : Nat, k = n ∧ 1 ≤ n ∧ n ≤ 1000 ∧ p ^ n ≤ 1000000000 ∧ n ≤ dp p := by
  simp only [deB, Bool.and_eq_true] at h
  obtain ⟨h1, h2⟩ := h
  have hb := mdPB_bd h1
  have hk := inB_iff.1 h2
  have hd := dp_lt hb.1
  refine ⟨h1, h2, k.toNat, by omega, by omega, by omega, dp_pow hb.1 (by omega), by omega⟩
theorem paB_bd {m e p n : Int} (hn : 2 ≤ n) (h : paB m e p n = true) : (0 ≤ m ∧ m < n) ∧ (0 ≤ e ∧ e < n) := by
  simp [paB, inB] at h
  omega
def lmB (d a c m e p k : Int) : Bool := qaB d a c && (deB p k && paB m e p (p ^ k.toNat))
def lmV (d a c m e p k : Int) : Bool := lmB d a c m e p k && liB d a c m e p k.toNat
end Go.Proofs.YtegiddpakocodaaGreat
