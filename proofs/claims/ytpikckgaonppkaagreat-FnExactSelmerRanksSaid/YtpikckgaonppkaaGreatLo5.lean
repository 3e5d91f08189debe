/- Quartics and pairs: contracts of both sides. -/
import Derived.Test.YtpikckgaonppkaaGreatLo4
namespace Go.Proofs.YtpikckgaonppkaaGreat
open Go.RowKit
set_option linter.unusedVariables false
set_option maxHeartbeats 4000000
set_option linter.unusedSimpArgs false
def qaB (d a c : Int) : Bool := inB d (-100000) 100000 && (inB a (-100000) 100000 && (inB c (-100000) 100000 && (decide (d ≠ 0) && decide (c ≠ 0))))
theorem qaB_cases (d a c : Int) : (inB d (-100000) 100000 = false ∧ qaB d a c = false) ∨ (inB d (-100000) 100000 = true ∧ ((inB a (-100000) 100000 = false ∧ qaB d a c = false) ∨ (inB a (-100000) 100000 = true ∧ ((inB c (-100000) 100000 = false ∧ qaB d a c = false) ∨ (inB c (-100000) 100000 = true ∧
    ((d = 0 ∧ qaB d a c = false) ∨ (d ≠ 0 ∧ ((c = 0 ∧ qaB d a c = false) ∨ (c ≠ 0 ∧ qaB d a c = true))))))))) := by
  unfold qaB
  cases inB d (-100000) 100000 <;> cases inB a (-100000) 100000 <;> cases inB c (-100000) 100000 <;> by_cases h : d = 0 <;> by_cases h' : c = 0 <;> simp [h, h']
theorem qaB_bd {d a c : Int} (h : qaB d a c = true) : (-100000 ≤ d ∧ d ≤ 100000) ∧ (-100000 ≤ a ∧ a ≤ 100000) ∧ (-100000 ≤ c ∧ c ≤ 100000) ∧ d ≠ 0 ∧ c ≠ 0 := by
  simp [qaB, inB] at h; omega
def paB (m e p n : Int) : Bool := (decide (e = 1) && inB m 0 (n - 1)) || (decide (m = 1) && (inB e 0 (n - 1) && decide (e % p = 0)))
theorem paB_cases (m e p n : Int) : (e = 1 ∧ inB m 0 (n - 1) = true ∧ paB m e p n = true) ∨ (((e = 1 ∧ inB m 0 (n - 1) = false) ∨ e ≠ 1) ∧ ((m ≠ 1 ∧ paB m e p n = false) ∨ (m = 1 ∧ ((inB e 0 (n - 1) = false ∧ paB m e p n = false) ∨ (inB e 0 (n - 1) = true ∧ paB m e p n = decide (e % p = 0)))))) := by
  unfold paB
  cases inB m 0 (n - 1) <;> cases inB e 0 (n - 1) <;> by_cases h : e = 1 <;> by_cases h' : m = 1 <;> simp [h, h']
theorem pa_even {e p : Int} (hp : 2 ≤ p) (h : 0 ≤ e) : (e.tmod p == 0) = decide (e % p = 0) := by
  rw [Int.tmod_eq_emod_of_nonneg h, Bool.eq_iff_iff]; simp
end Go.Proofs.YtpikckgaonppkaaGreat
