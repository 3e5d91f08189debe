/- Lemmas and contracts of functions. No condition. -/
import Derived.Test.YtnemnkbcbokafaaGreatPk9
namespace Go.Proofs.YtnemnkbcbokafaaGreat
open Go.RowKit
set_option linter.unusedVariables false
set_option linter.unusedSimpArgs false
/-- what a fraction is worth -/
def qv (n d : Int) : Rat := (n : Rat) * (d : Rat)⁻¹
theorem ne_rat {z : Int} (h : z ≠ 0) : (z : Rat) ≠ 0 := fun hh => h (by exact_mod_cast hh)
theorem qv_mul {n d : Int} (hd : d ≠ 0) : qv n d * (d : Rat) = (n : Rat) := by
  unfold qv
  have := ne_rat hd
  grind
theorem qv_of {n d : Int} {x : Rat} (hd : d ≠ 0) (h : x * (d : Rat) = (n : Rat)) : x = qv n d := by
  unfold qv
  have := ne_rat hd
  grind
theorem qv_one (n : Int) : qv n 1 = (n : Rat) := by
  have := qv_mul (n := n) (d := 1) (by omega)
  have h1 : ((1 : Int) : Rat) = 1 := by exact_mod_cast rfl
  rw [h1] at this
  grind
theorem qv_zero {n d : Int} (hd : d ≠ 0) (h : qv n d = 0) : n = 0 := by
  have := qv_mul (n := n) hd
  rw [h] at this
  have e : (n : Rat) = 0 := by grind
  exact_mod_cast e
theorem cross_of {n1 d1 n2 d2 : Int} (h1 : d1 ≠ 0) (h2 : d2 ≠ 0) (h : qv n1 d1 = qv n2 d2) : n1 * d2 = n2 * d1 := by
  have a := qv_mul (n := n1) h1
  have b := qv_mul (n := n2) h2
  have e : (n1 : Rat) * (d2 : Rat) = (n2 : Rat) * (d1 : Rat) := by
    rw [h] at a
    grind
  exact_mod_cast e
theorem of_cross {n1 d1 n2 d2 : Int} (h1 : d1 ≠ 0) (h2 : d2 ≠ 0) (h : n1 * d2 = n2 * d1) : qv n1 d1 = qv n2 d2 := by
  have e : (n1 : Rat) * (d2 : Rat) = (n2 : Rat) * (d1 : Rat) := by exact_mod_cast h
  have := ne_rat h1
  have := ne_rat h2
  unfold qv
  grind
theorem low_eq {n1 d1 n2 d2 : Int} (g1 : gcdI n1 d1 = 1) (g2 : gcdI n2 d2 = 1) (p1 : 0 < d1) (p2 : 0 < d2) (h : n1 * d2 = n2 * d1) : n1 = n2 ∧ d1 = d2 := by
  have k1 : Nat.Coprime d1.natAbs n1.natAbs := by
    unfold gcdI at g1
    exact Nat.Coprime.symm (show Nat.gcd n1.natAbs d1.natAbs = 1 by unfold Int.gcd at g1; omega)
  have k2 : Nat.Coprime d2.natAbs n2.natAbs := by
    unfold gcdI at g2
    exact Nat.Coprime.symm (show Nat.gcd n2.natAbs d2.natAbs = 1 by unfold Int.gcd at g2; omega)
  have e := congrArg Int.natAbs h
  rw [Int.natAbs_mul, Int.natAbs_mul] at e
  have a1 : d1.natAbs ∣ d2.natAbs := k1.dvd_of_dvd_mul_left ⟨n2.natAbs, by rw [e, Nat.mul_comm]⟩
  have a2 : d2.natAbs ∣ d1.natAbs := k2.dvd_of_dvd_mul_left ⟨n1.natAbs, by rw [← e, Nat.mul_comm]⟩
  have a3 := Nat.dvd_antisymm a1 a2
  have hd : d1 = d2 := by omega
  subst hd
  exact ⟨Int.eq_of_mul_eq_mul_right (by omega) h, rfl⟩
theorem frB_gcd {n d : Int} (h : frB n d = true) : gcdI n d = 1 := by
  unfold frB at h
  have := (Bool.and_eq_true_iff.1 h).2
  simpa using this
theorem qv_inj {n1 d1 n2 d2 : Int} (f1 : frB n1 d1 = true) (f2 : frB n2 d2 = true) (h : qv n1 d1 = qv n2 d2) : n1 = n2 ∧ d1 = d2 := by
  have b1 := frB_bd f1
  have b2 := frB_bd f2
  exact low_eq (frB_gcd f1) (frB_gcd f2) (by omega) (by omega) (cross_of (by omega) (by omega) h)
theorem quo_mulQ (n d : Int) (hd : d ≠ 0) : n.tdiv (gcdI n d) * gcdI n d = n ∧ d.tdiv (gcdI n d) * gcdI n d = d :=
  ⟨Int.tdiv_mul_cancel (by unfold gcdI; exact Int.gcd_dvd_left n d), Int.tdiv_mul_cancel (by unfold gcdI; exact Int.gcd_dvd_right n d)⟩
theorem mkF_mulQ {n d : Int} (hd : d ≠ 0) : mkN n d * d = n * mkD n d := by
  obtain ⟨h1, h2⟩ := quo_mulQ n d hd
  unfold mkN mkD
  generalize gcdI n d = g at *
  generalize n.tdiv g = x at *
  generalize d.tdiv g = y at *
  split <;> grind
theorem mkF_valQ {n d : Int} (h : (mkF n d).2.2 = true) : (mkF n d).1 = mkN n d ∧ (mkF n d).2.1 = mkD n d ∧ frB (mkN n d) (mkD n d) = true := by
  unfold mkF at h ⊢
  split at h
  · rename_i hh; rw [if_pos hh]; exact ⟨rfl, rfl, hh⟩
  · cases h
/-- a fraction that is told is worth what it was made of -/
theorem mkF_q {n d : Int} (hd : d ≠ 0) (h : (mkF n d).2.2 = true) : frB (mkF n d).1 (mkF n d).2.1 = true ∧ qv (mkF n d).1 (mkF n d).2.1 = qv n d := by
  obtain ⟨e1, e2, e3⟩ := mkF_valQ h
  rw [e1, e2]
  have b := frB_bd e3
  exact ⟨e3, of_cross (by omega) hd (mkF_mulQ hd)⟩
theorem qv_muls (n1 d1 n2 d2 : Int) (h1 : d1 ≠ 0) (h2 : d2 ≠ 0) : qv (n1 * n2) (d1 * d2) = qv n1 d1 * qv n2 d2 := by
  refine (qv_of (Int.mul_ne_zero h1 h2) ?_).symm
  have a := qv_mul (n := n1) h1
  have b := qv_mul (n := n2) h2
  push_cast
  grind
theorem qv_adds (n1 d1 n2 d2 : Int) (h1 : d1 ≠ 0) (h2 : d2 ≠ 0) : qv (n1 * d2 + n2 * d1) (d1 * d2) = qv n1 d1 + qv n2 d2 := by
  refine (qv_of (Int.mul_ne_zero h1 h2) ?_).symm
  have a := qv_mul (n := n1) h1
  have b := qv_mul (n := n2) h2
  push_cast
  grind
theorem qv_subs (n1 d1 n2 d2 : Int) (h1 : d1 ≠ 0) (h2 : d2 ≠ 0) : qv (n1 * d2 - n2 * d1) (d1 * d2) = qv n1 d1 - qv n2 d2 := by
  refine (qv_of (Int.mul_ne_zero h1 h2) ?_).symm
  have a := qv_mul (n := n1) h1
  have b := qv_mul (n := n2) h2
  push_cast
  grind
theorem qv_divs (n1 d1 n2 d2 : Int) (h1 : d1 ≠ 0) (h2 : d2 ≠ 0) (h0 : n2 ≠ 0) : qv (n1 * d2) (d1 * n2) * qv n2 d2 = qv n1 d1 := by
  have a := qv_mul (n := n1) h1
  have b := qv_mul (n := n2) h2
  have c := qv_mul (n := n1 * d2) (d := d1 * n2) (Int.mul_ne_zero h1 h0)
  have e1 := ne_rat h1
  have e2 := ne_rat h2
  have e0 := ne_rat h0
  push_cast at c
  generalize qv (n1 * d2) (d1 * n2) = x at *
  generalize qv n1 d1 = y at *
  generalize qv n2 d2 = z at *
  have : (x * z - y) * ((d1 : Rat) * (n2 : Rat) * (d2 : Rat)) = 0 := by grind
  rcases Rat.mul_eq_zero.1 this with h | h
  · grind
  · exfalso
    rcases Rat.mul_eq_zero.1 h with h | h
    · rcases Rat.mul_eq_zero.1 h with h | h
      · exact e1 h
      · exact e0 h
    · exact e2 h
end Go.Proofs.YtnemnkbcbokafaaGreat
