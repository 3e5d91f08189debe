/- The plain law of widths, members and rounded ends of intervals. -/
import Derived.Test.YthifeabcobgbmaaIvPlain
namespace Go.Proofs.Ythifeabcobgbmaa
open Go.RowKit
set_option linter.unusedVariables false
set_option linter.unusedSimpArgs false

/-- the width of an interval: a fraction in lowest terms, or zeros -/
def widN (n1 d1 n2 d2 : Int) : Int := if goodB n1 d1 n2 d2 = true then (mkF (plN n2 d2 - plN n1 d1) 4096).1 else 0
def widD (n1 d1 n2 d2 : Int) : Int := if goodB n1 d1 n2 d2 = true then (mkF (plN n2 d2 - plN n1 d1) 4096).2.1 else 0
def widB (n1 d1 n2 d2 : Int) : Bool := if goodB n1 d1 n2 d2 = true then (mkF (plN n2 d2 - plN n1 d1) 4096).2.2 else false
theorem wid_no {n1 d1 n2 d2 : Int} (h : goodB n1 d1 n2 d2 = false) : widN n1 d1 n2 d2 = 0 := by simp [widN, h]
theorem wid_no' {n1 d1 n2 d2 : Int} (h : goodB n1 d1 n2 d2 = false) : widD n1 d1 n2 d2 = 0 := by simp [widD, h]
theorem wid_no'' {n1 d1 n2 d2 : Int} (h : goodB n1 d1 n2 d2 = false) : widB n1 d1 n2 d2 = false := by simp [widB, h]
theorem wid_yes {n1 d1 n2 d2 : Int} (h : goodB n1 d1 n2 d2 = true) : widN n1 d1 n2 d2 = (mkF (plN n2 d2 - plN n1 d1) 4096).1 := by simp [widN, h]
theorem wid_yes' {n1 d1 n2 d2 : Int} (h : goodB n1 d1 n2 d2 = true) : widD n1 d1 n2 d2 = (mkF (plN n2 d2 - plN n1 d1) 4096).2.1 := by simp [widD, h]
theorem wid_yes'' {n1 d1 n2 d2 : Int} (h : goodB n1 d1 n2 d2 = true) : widB n1 d1 n2 d2 = (mkF (plN n2 d2 - plN n1 d1) 4096).2.2 := by simp [widB, h]
/-- the sign of an interval -/
def sgnI (n1 d1 n2 d2 : Int) : Int := if goodB n1 d1 n2 d2 = true then (if 0 < n1 then 1 else if n2 < 0 then -1 else 0) else 0
theorem sgnI_cases (n1 d1 n2 d2 : Int) : (goodB n1 d1 n2 d2 = false ∧ sgnI n1 d1 n2 d2 = 0) ∨ (goodB n1 d1 n2 d2 = true ∧ ((0 < n1 ∧ 0 < plN n1 d1 ∧ sgnI n1 d1 n2 d2 = 1) ∨ (¬ 0 < n1 ∧ ¬ 0 < plN n1 d1 ∧ n2 < 0 ∧ plN n2 d2 < 0 ∧ sgnI n1 d1 n2 d2 = -1) ∨ (¬ 0 < n1 ∧ ¬ 0 < plN n1 d1 ∧ ¬ n2 < 0 ∧ ¬ plN n2 d2 < 0 ∧ sgnI n1 d1 n2 d2 = 0))) := by
  cases h : goodB n1 d1 n2 d2
  · left; simp [sgnI, h]
  · right
    obtain ⟨p1, p2⟩ := goodB_pre h
    have s1 := plN_sgn p1
    have s2 := plN_sgn p2
    refine ⟨rfl, ?_⟩
    by_cases a : 0 < n1
    · left; exact ⟨a, s1.1.2 a, by simp [sgnI, h, a]⟩
    · right
      by_cases b : n2 < 0
      · left; exact ⟨a, fun x => a (s1.1.1 x), b, s2.2.2 b, by simp [sgnI, h, a, b]⟩
      · right; exact ⟨a, fun x => a (s1.1.1 x), b, fun x => b (s2.2.1 x), by simp [sgnI, h, a, b]⟩
/-- a fraction in an interval -/
def hasB (n1 d1 n2 d2 n d : Int) : Bool := goodB n1 d1 n2 d2 && frB n d && decide (n1 * d ≤ n * d1) && decide (n * d2 ≤ n2 * d)
theorem le_of_mul {a b c : Int} (hc : 0 < c) : a * c ≤ b * c ↔ a ≤ b := ⟨fun h => Int.le_of_mul_le_mul_right h hc, fun h => Int.mul_le_mul_of_nonneg_right h (by omega)⟩
theorem has_lo {n1 d1 n d : Int} (h : pre1 n1 d1 = true) : plN n1 d1 * d ≤ n * 4096 ↔ n1 * d ≤ n * d1 := by
  have hd := pre1_bd h
  have hm := plN_mul h
  rw [← le_of_mul (c := d1) (by omega)]
  rw [show plN n1 d1 * d * d1 = n1 * d * 4096 by rw [Int.mul_right_comm, hm]; rw [Int.mul_right_comm]]
  rw [show n * 4096 * d1 = n * d1 * 4096 by rw [Int.mul_right_comm]]
  exact le_of_mul (by omega)
theorem has_hi {n2 d2 n d : Int} (h : pre1 n2 d2 = true) : n * 4096 ≤ plN n2 d2 * d ↔ n * d2 ≤ n2 * d := by
  have hd := pre1_bd h
  have hm := plN_mul h
  rw [← le_of_mul (c := d2) (by omega)]
  rw [show plN n2 d2 * d * d2 = n2 * d * 4096 by rw [Int.mul_right_comm, hm]; rw [Int.mul_right_comm]]
  rw [show n * 4096 * d2 = n * d2 * 4096 by rw [Int.mul_right_comm]]
  exact le_of_mul (by omega)
theorem hasB_cases (n1 d1 n2 d2 n d : Int) : (goodB n1 d1 n2 d2 = false ∧ (goodB n1 d1 n2 d2 && frB n d) = false ∧ hasB n1 d1 n2 d2 n d = false) ∨ (goodB n1 d1 n2 d2 = true ∧ frB n d = false ∧ (goodB n1 d1 n2 d2 && frB n d) = false ∧ hasB n1 d1 n2 d2 n d = false)
    ∨ (goodB n1 d1 n2 d2 = true ∧ frB n d = true ∧ (goodB n1 d1 n2 d2 && frB n d) = true ∧ ((n * d1 < n1 * d ∧ n * 4096 < plN n1 d1 * d ∧ hasB n1 d1 n2 d2 n d = false) ∨ (n1 * d ≤ n * d1 ∧ plN n1 d1 * d ≤ n * 4096 ∧ n2 * d < n * d2 ∧ plN n2 d2 * d < n * 4096 ∧ hasB n1 d1 n2 d2 n d = false) ∨ (n1 * d ≤ n * d1 ∧ plN n1 d1 * d ≤ n * 4096 ∧ n * d2 ≤ n2 * d ∧ n * 4096 ≤ plN n2 d2 * d ∧ hasB n1 d1 n2 d2 n d = true))) := by
  cases hg : goodB n1 d1 n2 d2
  · left; simp [hasB, hg]
  · cases hf : frB n d
    · right; left; simp [hasB, hg, hf]
    · right; right
      obtain ⟨p1, p2⟩ := goodB_pre hg
      have s1 := has_lo (n := n) (d := d) p1
      have s2 := has_hi (n := n) (d := d) p2
      refine ⟨rfl, rfl, rfl, ?_⟩
      by_cases a : n1 * d ≤ n * d1
      · right
        by_cases b : n * d2 ≤ n2 * d
        · right; exact ⟨a, s1.2 a, b, s2.2 b, by simp [hasB, hg, hf, a, b]⟩
        · left; exact ⟨a, s1.2 a, by omega, by have := mt s2.1 b; omega, by simp [hasB, hg, hf, a, b]⟩
      · left; exact ⟨by omega, by have := mt s1.1 a; omega, by simp [hasB, hg, hf, a]⟩
/-- the interval of two fractions -/
def nearB (n d : Int) : Bool := frB n d && inB n (-100000 * d) (100000 * d)
def ofB (n1 d1 n2 d2 : Int) : Bool := nearB n1 d1 && nearB n2 d2 && decide (n1 * d2 ≤ n2 * d1)
theorem ofB_cases (n1 d1 n2 d2 : Int) : (frB n1 d1 = false ∧ ofB n1 d1 n2 d2 = false) ∨ (frB n1 d1 = true ∧ ((frB n2 d2 = false ∧ ofB n1 d1 n2 d2 = false) ∨ (frB n2 d2 = true ∧
    ((n2 * d1 < n1 * d2 ∧ ofB n1 d1 n2 d2 = false) ∨ (n1 * d2 ≤ n2 * d1 ∧ ((100000 * d1 < n1 ∧ ofB n1 d1 n2 d2 = false) ∨ (n1 ≤ 100000 * d1 ∧ ((n1 < -(100000 * d1) ∧ ofB n1 d1 n2 d2 = false) ∨ (-(100000 * d1) ≤ n1 ∧
    ((100000 * d2 < n2 ∧ ofB n1 d1 n2 d2 = false) ∨ (n2 ≤ 100000 * d2 ∧ ((n2 < -(100000 * d2) ∧ ofB n1 d1 n2 d2 = false) ∨ (-(100000 * d2) ≤ n2 ∧ ofB n1 d1 n2 d2 = true))))))))))))) := by
  cases h1 : frB n1 d1
  · left; simp [ofB, nearB, h1]
  · right; refine ⟨rfl, ?_⟩
    cases h2 : frB n2 d2
    · left; simp [ofB, nearB, h2]
    · right; refine ⟨rfl, ?_⟩
      rcases Int.lt_or_le (n2 * d1) (n1 * d2) with h | h
      · left; refine ⟨h, ?_⟩; rw [Bool.eq_false_iff]; intro hh; simp [ofB] at hh; omega
      · right; refine ⟨h, ?_⟩
        rcases Int.lt_or_le (100000 * d1) n1 with h | h
        · left; refine ⟨h, ?_⟩; rw [Bool.eq_false_iff]; intro hh; simp [ofB, nearB, inB] at hh; omega
        · right; refine ⟨h, ?_⟩
          rcases Int.lt_or_le n1 (-(100000 * d1)) with h | h
          · left; refine ⟨h, ?_⟩; rw [Bool.eq_false_iff]; intro hh; simp [ofB, nearB, inB] at hh; omega
          · right; refine ⟨h, ?_⟩
            rcases Int.lt_or_le (100000 * d2) n2 with h | h
            · left; refine ⟨h, ?_⟩; rw [Bool.eq_false_iff]; intro hh; simp [ofB, nearB, inB] at hh; omega
            · right; refine ⟨h, ?_⟩
              rcases Int.lt_or_le n2 (-(100000 * d2)) with h | h
              · left; refine ⟨h, ?_⟩; rw [Bool.eq_false_iff]; intro hh; simp [ofB, nearB, inB] at hh; omega
              · right; refine ⟨h, ?_⟩; simp [ofB, nearB, inB, h1, h2]; omega
end Go.Proofs.Ythifeabcobgbmaa
