/- The plain law of quotients of intervals. -/
import Derived.Test.YthifeabcobgbmaaIvPlain
namespace Go.Proofs.Ythifeabcobgbmaa
open Go.RowKit
set_option linter.unusedVariables false
set_option linter.unusedSimpArgs false

def ovX (a b : Int) : Int := if b < 0 then -a * 4096 else a * 4096
def ovY (b : Int) : Int := if b < 0 then -b else b
def ovD (a b : Int) : Int := down (ovX a b) (ovY b)
def ovU (a b : Int) : Int := -(down (-(ovX a b)) (ovY b))
def divLo (a b c d : Int) : Int := min (min (min (min (ovD a c) (ovD a c)) (ovD a d)) (ovD b c)) (ovD b d)
def divHi (a b c d : Int) : Int := max (max (max (max (ovU a c) (ovU a c)) (ovU a d)) (ovU b c)) (ovU b d)
def divB (n1 d1 n2 d2 n3 d3 n4 d4 : Int) : Bool := goodB n1 d1 n2 d2 && goodB n3 d3 n4 d4 && !(decide (plN n3 d3 ≤ 0) && decide (0 ≤ plN n4 d4))
theorem divB_cases (n1 d1 n2 d2 n3 d3 n4 d4 : Int) : ((goodB n1 d1 n2 d2 && goodB n3 d3 n4 d4) = false ∧ divB n1 d1 n2 d2 n3 d3 n4 d4 = false) ∨
    (goodB n1 d1 n2 d2 = true ∧ goodB n3 d3 n4 d4 = true ∧ ((plN n3 d3 ≤ 0 ∧ 0 ≤ plN n4 d4 ∧ n3 ≤ 0 ∧ 0 ≤ n4 ∧ divB n1 d1 n2 d2 n3 d3 n4 d4 = false) ∨
      (0 < plN n3 d3 ∧ 0 < n3 ∧ divB n1 d1 n2 d2 n3 d3 n4 d4 = true) ∨ (plN n3 d3 < 0 ∧ plN n4 d4 < 0 ∧ n3 ≤ 0 ∧ n4 < 0 ∧ divB n1 d1 n2 d2 n3 d3 n4 d4 = true))) := by
  cases h : goodB n1 d1 n2 d2 && goodB n3 d3 n4 d4
  · left; exact ⟨rfl, by simp [divB, h]⟩
  · right
    obtain ⟨h1, h2⟩ : goodB n1 d1 n2 d2 = true ∧ goodB n3 d3 n4 d4 = true := by simpa using h
    obtain ⟨p1, p2⟩ := goodB_pre h2
    have b := goodB_bd h2
    have s1 := plN_sgn p1
    have s2 := plN_sgn p2
    refine ⟨h1, h2, ?_⟩
    by_cases x : 0 < plN n3 d3
    · right; left; exact ⟨x, s1.1.1 x, by simp [divB, h1, h2]; omega⟩
    · by_cases y : plN n4 d4 < 0
      · right; right
        have := s2.2.1 y
        exact ⟨by omega, y, by have := mt s1.1.2 x; omega, this, by simp [divB, h1, h2]; omega⟩
      · left
        exact ⟨by omega, by omega, by have := mt s1.1.2 x; omega, by have := mt s2.2.2 y; omega, by simp [divB, h1, h2]; omega⟩
theorem ovX_bd {a b : Int} (h : -409600000 ≤ a ∧ a ≤ 409600000) : -1677721600000 ≤ ovX a b ∧ ovX a b ≤ 1677721600000 := by unfold ovX; split <;> omega
theorem ovY_pos {b : Int} (h : b ≠ 0) : 0 < ovY b := by unfold ovY; split <;> omega
theorem ovD_bd {a b : Int} (h : -409600000 ≤ a ∧ a ≤ 409600000) (hb : b ≠ 0) : -1677721600000 ≤ ovD a b ∧ ovD a b ≤ 1677721600000 := down_in (ovY_pos hb) (ovX_bd h)
theorem ovU_bd {a b : Int} (h : -409600000 ≤ a ∧ a ≤ 409600000) (hb : b ≠ 0) : -1677721600000 ≤ ovU a b ∧ ovU a b ≤ 1677721600000 := by
  have x := ovX_bd (b := b) h
  have := down_in (a := -(ovX a b)) (M := 1677721600000) (ovY_pos hb) (by omega)
  unfold ovU; omega
end Go.Proofs.Ythifeabcobgbmaa
