/- The plain law of intervals: places on the grid of 4096 and fractions in lowest terms. -/
import Derived.Test.YthifeabcobgbmaaNum
namespace Go.Proofs.Ythifeabcobgbmaa
open Go.RowKit
set_option linter.unusedVariables false
set_option linter.unusedSimpArgs false

def pre1 (n d : Int) : Bool := frB n d && (4096 % d == 0)
def plN (n d : Int) : Int := if pre1 n d = true then n * (4096 / d) else 0
def plB (n d : Int) : Bool := pre1 n d && inB (plN n d) (-409600000) 409600000
def validB (a b : Int) : Bool := decide (a ≤ b) && decide (-409600000 ≤ a) && decide (b ≤ 409600000)
def goodB (n1 d1 n2 d2 : Int) : Bool := plB n1 d1 && plB n2 d2 && decide (plN n1 d1 ≤ plN n2 d2)
def spLo (n1 d1 n2 d2 : Int) : Int := if (pre1 n1 d1 && pre1 n2 d2) = true then plN n1 d1 else 0
def spHi (n1 d1 n2 d2 : Int) : Int := if (pre1 n1 d1 && pre1 n2 d2) = true then plN n2 d2 else 0

theorem goodB_eq (n1 d1 n2 d2 : Int) : goodB n1 d1 n2 d2 = (pre1 n1 d1 && pre1 n2 d2 && validB (plN n1 d1) (plN n2 d2)) := by
  unfold goodB plB validB inB
  cases pre1 n1 d1 <;> cases pre1 n2 d2 <;> simp
  rw [Bool.eq_iff_iff]; simp; omega
theorem validB_bd {a b : Int} (h : validB a b = true) : a ≤ b ∧ -409600000 ≤ a ∧ b ≤ 409600000 := by
  simp [validB] at h; omega
theorem validB_mk {a b : Int} (h1 : a ≤ b) (h2 : -409600000 ≤ a) (h3 : b ≤ 409600000) : validB a b = true := by
  simp [validB, h1, h2, h3]
theorem goodB_bd {n1 d1 n2 d2 : Int} (h : goodB n1 d1 n2 d2 = true) : plN n1 d1 ≤ plN n2 d2 ∧ -409600000 ≤ plN n1 d1 ∧ plN n2 d2 ≤ 409600000 := by
  rw [goodB_eq] at h; simp at h; exact validB_bd h.2
theorem goodB_pre {n1 d1 n2 d2 : Int} (h : goodB n1 d1 n2 d2 = true) : pre1 n1 d1 = true ∧ pre1 n2 d2 = true := by
  rw [goodB_eq] at h; simp at h; exact h.1
theorem spLo_good {n1 d1 n2 d2 : Int} (h : goodB n1 d1 n2 d2 = true) : spLo n1 d1 n2 d2 = plN n1 d1 := by
  have := goodB_pre h; simp [spLo, this]
theorem spHi_good {n1 d1 n2 d2 : Int} (h : goodB n1 d1 n2 d2 = true) : spHi n1 d1 n2 d2 = plN n2 d2 := by
  have := goodB_pre h; simp [spHi, this]
theorem pre1_bd {n d : Int} (h : pre1 n d = true) : 1 ≤ d ∧ d ≤ 4096 ∧ 4096 % d = 0 ∧ -1000000000 ≤ n ∧ n ≤ 1000000000 := by
  simp [pre1] at h
  have := frB_bd h.1
  have h2 : d ∣ 4096 := Int.dvd_of_emod_eq_zero h.2
  have := Int.le_of_dvd (by omega) h2
  exact ⟨by omega, by omega, h.2, by omega, by omega⟩
theorem plN_pre {n d : Int} (h : pre1 n d = true) : plN n d = n * (4096 / d) := by simp [plN, h]
theorem quo_bd (d : Int) (h : 1 ≤ d) : 0 ≤ 4096 / d ∧ 4096 / d ≤ 4096 := ⟨Int.ediv_nonneg (by omega) (by omega), Int.ediv_le_self _ (by omega)⟩
theorem plN_mul {n d : Int} (h : pre1 n d = true) : plN n d * d = n * 4096 := by
  obtain ⟨h1, _, h3, _, _⟩ := pre1_bd h
  rw [plN_pre h, Int.mul_assoc, Int.ediv_mul_cancel (Int.dvd_of_emod_eq_zero h3)]
theorem plN_sgn {n d : Int} (h : pre1 n d = true) : (0 < plN n d ↔ 0 < n) ∧ (plN n d < 0 ↔ n < 0) := by
  obtain ⟨h1, _, h3, _, _⟩ := pre1_bd h
  have hm := plN_mul h
  constructor <;> constructor <;> intro hh
  · rcases Int.lt_or_le 0 n with g | g
    · exact g
    · have : 0 < plN n d * d := Int.mul_pos hh (by omega)
      omega
  · rcases Int.lt_or_le 0 (plN n d) with g | g
    · exact g
    · have : plN n d * d ≤ 0 := Int.mul_nonpos_of_nonpos_of_nonneg g (by omega)
      omega
  · rcases Int.lt_or_le n 0 with g | g
    · exact g
    · have : plN n d * d < 0 := Int.mul_neg_of_neg_of_pos hh (by omega)
      omega
  · rcases Int.lt_or_le (plN n d) 0 with g | g
    · exact g
    · have : 0 ≤ plN n d * d := Int.mul_nonneg g (by omega)
      omega

/-- lowest terms of a positive denominator -/
theorem gcd_quo (n d : Int) (hd : d ≠ 0) : Int.gcd (n.tdiv (gcdI n d)) (d.tdiv (gcdI n d)) = 1 := by
  have hg : 0 < Int.gcd n d := Int.gcd_pos_of_ne_zero_right n hd
  obtain ⟨a, ha⟩ := Int.gcd_dvd_left n d
  obtain ⟨b, hb⟩ := Int.gcd_dvd_right n d
  have e1 : n.tdiv (gcdI n d) = a := by
    have : n.tdiv (gcdI n d) = (gcdI n d * a).tdiv (gcdI n d) := by rw [show gcdI n d * a = n from ha.symm]
    rw [this]
    exact Int.mul_tdiv_cancel_left _ (by have := gcdI_pos (a := n) hd; omega)
  have e2 : d.tdiv (gcdI n d) = b := by
    have : d.tdiv (gcdI n d) = (gcdI n d * b).tdiv (gcdI n d) := by rw [show gcdI n d * b = d from hb.symm]
    rw [this]
    exact Int.mul_tdiv_cancel_left _ (by have := gcdI_pos (a := n) hd; omega)
  rw [e1, e2]
  have h := Int.gcd_mul_left (Int.gcd n d : Int) a b
  rw [← ha, ← hb] at h
  have h2 : Int.gcd n d * 1 = Int.gcd n d * Int.gcd a b := by rw [Nat.mul_one]; simpa using h
  exact (Nat.eq_of_mul_eq_mul_left hg h2).symm
theorem quo_mul (n d : Int) (hd : d ≠ 0) : n.tdiv (gcdI n d) * gcdI n d = n ∧ d.tdiv (gcdI n d) * gcdI n d = d :=
  ⟨Int.tdiv_mul_cancel (by unfold gcdI; exact Int.gcd_dvd_left n d), Int.tdiv_mul_cancel (by unfold gcdI; exact Int.gcd_dvd_right n d)⟩
theorem mkND_pos {n d : Int} (hd : 0 < d) : mkN n d = n.tdiv (gcdI n d) ∧ mkD n d = d.tdiv (gcdI n d) := by
  unfold mkN mkD; rw [if_neg (by omega), if_neg (by omega)]; exact ⟨rfl, rfl⟩
theorem mkD_pos {n d : Int} (hd : 0 < d) : 1 ≤ mkD n d ∧ mkD n d ≤ d := by
  rw [(mkND_pos hd).2]
  have h1 := (quo_mul n d (by omega)).2
  have h2 := gcdI_pos (a := n) (b := d) (by omega)
  have h3 : 0 < d.tdiv (gcdI n d) := by
    rcases Int.lt_or_le 0 (d.tdiv (gcdI n d)) with g | g
    · exact g
    · have : d.tdiv (gcdI n d) * gcdI n d ≤ 0 := Int.mul_nonpos_of_nonpos_of_nonneg g (by omega)
      omega
  have h4 := tdiv_bd d (gcdI n d)
  omega
theorem mkN_bd (n d : Int) : (mkN n d).natAbs ≤ n.natAbs := by
  unfold mkN
  have := tdiv_bd n (gcdI n d)
  split <;> omega
/-- a quotient by a positive number is its lowest terms -/
theorem mk_mul {n d : Int} (hd : 0 < d) : mkN n d * d = n * mkD n d := by
  rw [(mkND_pos hd).1, (mkND_pos hd).2]
  obtain ⟨h1, h2⟩ := quo_mul n d (by omega)
  generalize gcdI n d = g at *
  generalize n.tdiv g = x at *
  generalize d.tdiv g = y at *
  subst h1 h2
  rw [Int.mul_assoc, Int.mul_comm g y]
theorem mk_gcd {n d : Int} (hd : 0 < d) : gcdI (mkN n d) (mkD n d) = 1 := by
  rw [(mkND_pos hd).1, (mkND_pos hd).2]
  unfold gcdI
  rw [show Int.gcd (n.tdiv (Int.gcd n d : Int)) (d.tdiv (Int.gcd n d : Int)) = 1 from gcd_quo n d (by omega)]
  rfl
theorem mk_fr {n d : Int} (hd : 0 < d) : frB (mkN n d) (mkD n d) = (decide (mkD n d ≤ 1000000000) && inB (mkN n d) (-1000000000) 1000000000) := by
  have h1 := mkD_pos (n := n) hd
  simp [frB, mk_gcd hd, inB, h1.1]
/-- on the grid -/
theorem mk_place (a : Int) : 4096 % mkD a 4096 = 0 ∧ mkN a 4096 * (4096 / mkD a 4096) = a := by
  have hd := mkD_pos (n := a) (d := 4096) (by omega)
  have hm := mk_mul (n := a) (d := 4096) (by omega)
  have h2 : mkD a 4096 ∣ 4096 := by
    rw [(mkND_pos (by omega)).2]
    exact ⟨gcdI a 4096, ((quo_mul a 4096 (by omega)).2).symm⟩
  refine ⟨Int.emod_eq_zero_of_dvd h2, ?_⟩
  have h3 : (mkN a 4096 * (4096 / mkD a 4096)) * mkD a 4096 = a * mkD a 4096 := by
    rw [Int.mul_assoc, Int.ediv_mul_cancel h2, hm]
  exact Int.eq_of_mul_eq_mul_right (by omega) h3
theorem mk_ok {a : Int} (h1 : -1000000000 ≤ a) (h2 : a ≤ 1000000000) : frB (mkN a 4096) (mkD a 4096) = true := by
  rw [mk_fr (by omega)]
  have h3 := mkD_pos (n := a) (d := 4096) (by omega)
  have h4 := mkN_bd a 4096
  simp [inB]; omega
theorem mk_pre {a : Int} (h : frB (mkN a 4096) (mkD a 4096) = true) : pre1 (mkN a 4096) (mkD a 4096) = true ∧ plN (mkN a 4096) (mkD a 4096) = a := by
  have hp := mk_place a
  have h1 : pre1 (mkN a 4096) (mkD a 4096) = true := by simp [pre1, h, hp.1]
  exact ⟨h1, by rw [plN_pre h1]; exact hp.2⟩
theorem mkF_grid {a : Int} (h1 : -1000000000 ≤ a) (h2 : a ≤ 1000000000) : mkF a 4096 = (mkN a 4096, mkD a 4096, true) := mkF_yes rfl rfl (mk_ok h1 h2)
/-- the interval between two places: valid or nothing -/
theorem make_good (a b : Int) : ((mkF a 4096).2.2 && (mkF b 4096).2.2 && goodB (mkF a 4096).1 (mkF a 4096).2.1 (mkF b 4096).1 (mkF b 4096).2.1) = validB a b := by
  unfold mkF
  by_cases ha : frB (mkN a 4096) (mkD a 4096) = true
  · by_cases hb : frB (mkN b 4096) (mkD b 4096) = true
    · obtain ⟨p1, q1⟩ := mk_pre ha
      obtain ⟨p2, q2⟩ := mk_pre hb
      simp only [if_pos ha, if_pos hb]
      rw [goodB_eq, p1, p2, q1, q2]
      simp
    · rw [if_pos ha, if_neg hb]
      simp only [Bool.and_false, Bool.false_and]
      symm
      rcases h : validB a b with _ | _
      · rfl
      · have := validB_bd h
        exact absurd (mk_ok (a := b) (by omega) (by omega)) hb
  · rw [if_neg ha]
    simp only [Bool.false_and]
    symm
    rcases h : validB a b with _ | _
    · rfl
    · have := validB_bd h
      exact absurd (mk_ok (a := a) (by omega) (by omega)) ha
/-- the interval of two places, or zeros -/
def ivN1 (ok : Bool) (a b : Int) : Int := if (ok && validB a b) = true then mkN a 4096 else 0
def ivD1 (ok : Bool) (a b : Int) : Int := if (ok && validB a b) = true then mkD a 4096 else 0
def ivN2 (ok : Bool) (a b : Int) : Int := if (ok && validB a b) = true then mkN b 4096 else 0
def ivD2 (ok : Bool) (a b : Int) : Int := if (ok && validB a b) = true then mkD b 4096 else 0
def ivV (ok : Bool) (a b : Int) : Value := .tuple #[.agg #[.int .i64 (ivN1 ok a b), .int .i64 (ivD1 ok a b), .int .i64 (ivN2 ok a b), .int .i64 (ivD2 ok a b)], .bool (ok && validB a b)]
theorem ivV_no {ok : Bool} {a b : Int} (h : (ok && validB a b) = false) : ivV ok a b = .tuple #[.agg #[.int .i64 0, .int .i64 0, .int .i64 0, .int .i64 0], .bool false] := by
  simp [ivV, ivN1, ivD1, ivN2, ivD2, h]
theorem ivV_yes {a b : Int} (h : validB a b = true) : ivV true a b = .tuple #[.agg #[.int .i64 (mkN a 4096), .int .i64 (mkD a 4096), .int .i64 (mkN b 4096), .int .i64 (mkD b 4096)], .bool true] := by
  simp [ivV, ivN1, ivD1, ivN2, ivD2, h]
theorem iv_read {a b : Int} (h : validB a b = true) : goodB (mkN a 4096) (mkD a 4096) (mkN b 4096) (mkD b 4096) = true ∧ plN (mkN a 4096) (mkD a 4096) = a ∧ plN (mkN b 4096) (mkD b 4096) = b := by
  have hv := validB_bd h
  have ha := mk_ok (a := a) (by omega) (by omega)
  have hb := mk_ok (a := b) (by omega) (by omega)
  obtain ⟨p1, q1⟩ := mk_pre ha
  obtain ⟨p2, q2⟩ := mk_pre hb
  exact ⟨by rw [goodB_eq, p1, p2, q1, q2, h]; rfl, q1, q2⟩
/-- what the functions on two intervals hand back -/
def opV (g : Bool) (a b : Int) : Value := if g = true then ivV true a b else .tuple #[.agg #[.int .i64 0, .int .i64 0, .int .i64 0, .int .i64 0], .bool false]
theorem opV_eq (g : Bool) (a b : Int) : opV g a b = ivV g a b := by
  cases g
  · rw [ivV_no rfl]; rfl
  · rfl
def mulLo (a b c d : Int) : Int := down (min (a * c) (min (a * d) (min (b * c) (b * d)))) 4096
def mulHi (a b c d : Int) : Int := up (max (a * c) (max (a * d) (max (b * c) (b * d)))) 4096
end Go.Proofs.Ythifeabcobgbmaa
