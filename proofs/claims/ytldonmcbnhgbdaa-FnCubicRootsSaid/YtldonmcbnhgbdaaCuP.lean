/- Plain words: the rational roots of a cubic, as both texts find them. No program in sight. -/
import Derived.Test.YtldonmcbnhgbdaaCu
namespace Go.Proofs.Ytldonmcbnhgbdaa
open Go.RowKit
set_option linter.unusedVariables false
set_option linter.unusedSimpArgs false
/-! ### roots in lowest terms -/
abbrev Fr2 := Int × Int
/-- r is a fraction in lowest terms at which the cubic is 0 -/
structure RtP (a b c d : Int) (r : Fr2) : Prop where
  den : 1 ≤ r.2
  low : Int.gcd r.1 r.2 = 1
  zero : cuV a b c d r.1 r.2 = 0
def ltF (x y : Fr2) : Prop := x.1 * y.2 < y.1 * x.2
theorem ltF_asym {x y : Fr2} (h1 : ltF x y) (h2 : ltF y x) : False := by unfold ltF at *; omega
theorem ltF_trans {x y z : Fr2} (hx : 1 ≤ x.2) (hy : 1 ≤ y.2) (hz : 1 ≤ z.2) (h1 : ltF x y) (h2 : ltF y z) : ltF x z := by
  unfold ltF at *
  have e1 := Int.mul_lt_mul_of_pos_right h1 (show 0 < z.2 by omega)
  have e2 := Int.mul_lt_mul_of_pos_right h2 (show 0 < x.2 by omega)
  have e3 : x.1 * z.2 * y.2 < z.1 * x.2 * y.2 := by
    have q1 : x.1 * y.2 * z.2 = x.1 * z.2 * y.2 := by rw [Int.mul_assoc, Int.mul_comm y.2, ← Int.mul_assoc]
    have q2 : y.1 * x.2 * z.2 = y.1 * z.2 * x.2 := by rw [Int.mul_assoc, Int.mul_comm x.2, ← Int.mul_assoc]
    have q3 : z.1 * y.2 * x.2 = z.1 * x.2 * y.2 := by rw [Int.mul_assoc, Int.mul_comm y.2, ← Int.mul_assoc]
    omega
  exact Int.lt_of_mul_lt_mul_right e3 (by omega)
/-- two fractions in lowest terms of the same value are the same -/
theorem low_same {x y : Fr2} (hx : 1 ≤ x.2) (hy : 1 ≤ y.2) (gx : Int.gcd x.1 x.2 = 1) (gy : Int.gcd y.1 y.2 = 1) (h : x.1 * y.2 = y.1 * x.2) : x = y := by
  have d1 : x.2.natAbs ∣ y.2.natAbs := by
    have : x.2.natAbs ∣ x.1.natAbs * y.2.natAbs := ⟨y.1.natAbs, by rw [← Int.natAbs_mul, h, Int.natAbs_mul, Nat.mul_comm]⟩
    exact Nat.Coprime.dvd_of_dvd_mul_left (Nat.Coprime.symm gx) this
  have d2 : y.2.natAbs ∣ x.2.natAbs := by
    have : y.2.natAbs ∣ y.1.natAbs * x.2.natAbs := ⟨x.1.natAbs, by rw [← Int.natAbs_mul, ← h, Int.natAbs_mul, Nat.mul_comm]⟩
    exact Nat.Coprime.dvd_of_dvd_mul_left (Nat.Coprime.symm gy) this
  have e := Nat.dvd_antisymm d1 d2
  have e2 : x.2 = y.2 := by omega
  rw [e2] at h
  have e1 : x.1 = y.1 := Int.eq_of_mul_eq_mul_right (by omega) h
  exact Prod.ext e1 e2
theorem ltF_total {x y : Fr2} (hx : 1 ≤ x.2) (hy : 1 ≤ y.2) (gx : Int.gcd x.1 x.2 = 1) (gy : Int.gcd y.1 y.2 = 1) (h : x ≠ y) : ltF x y ∨ ltF y x := by
  unfold ltF
  rcases Int.lt_trichotomy (x.1 * y.2) (y.1 * x.2) with h1 | h1 | h1
  · exact .inl h1
  · exact (h (low_same hx hy gx gy h1)).elim
  · exact .inr h1
/-- increasing lists with the same members are the same -/
theorem extF : ∀ {l m : List Fr2}, l.Pairwise ltF → m.Pairwise ltF → (∀ x, x ∈ l ↔ x ∈ m) → l = m
  | [], [], _, _, _ => rfl
  | [], y :: m, _, _, h => by have := (h y).2 (by simp); cases this
  | x :: l, [], _, _, h => by have := (h x).1 (by simp); cases this
  | x :: l, y :: m, hl, hm, h => by
    rw [List.pairwise_cons] at hl hm
    have hxy : x = y := by
      rcases List.mem_cons.1 ((h x).1 (by simp)) with e | e
      · exact e
      · rcases List.mem_cons.1 ((h y).2 (by simp)) with e2 | e2
        · exact e2.symm
        · exact (ltF_asym (hm.1 x e) (hl.1 y e2)).elim
    subst hxy
    rw [extF hl.2 hm.2 fun z => ?_]
    constructor
    · intro hz
      rcases List.mem_cons.1 ((h z).1 (by simp [hz])) with e | e
      · subst e; exact (ltF_asym (hl.1 z hz) (hl.1 z hz)).elim
      · exact e
    · intro hz
      rcases List.mem_cons.1 ((h z).2 (by simp [hz])) with e | e
      · subst e; exact (ltF_asym (hm.1 z hz) (hm.1 z hz)).elim
      · exact e
/-! ### which fractions can be roots -/
/-- the last coefficient that is not 0 (0 if only the first one is not) -/
def laV (b c d : Int) : Int := if d ≠ 0 then d else if c ≠ 0 then c else b
theorem cop3 {n e : Int} (h : Int.gcd n e = 1) {k : Int} (hd : e ∣ k * n) : e ∣ k := by
  have h1 : e.natAbs ∣ n.natAbs * k.natAbs := by
    have := Int.natAbs_dvd_natAbs.2 hd
    rw [Int.natAbs_mul, Nat.mul_comm] at this; exact this
  exact Int.natAbs_dvd_natAbs.1 (Nat.Coprime.dvd_of_dvd_mul_left (Nat.Coprime.symm h) h1)
theorem root_den {a b c d n e : Int} (h : Int.gcd n e = 1) (hz : cuV a b c d n e = 0) : e ∣ a := by
  have h1 : e ∣ a * n * n * n := ⟨-(b * n * n + c * n * e + d * e * e), by unfold cuV at hz; grind⟩
  exact cop3 h (cop3 h (cop3 h h1))
theorem root_num {a b c d n e : Int} (h : Int.gcd n e = 1) (hn : n ≠ 0) (hz : cuV a b c d n e = 0) : n ∣ (if laV b c d = 0 then a else laV b c d) := by
  have h' : Int.gcd e n = 1 := by rw [Int.gcd_comm]; exact h
  have hz' : a * n * n * n + b * n * n * e + c * n * e * e + d * e * e * e = 0 := by rw [cuV_eq]; exact hz
  unfold laV
  by_cases hd : d = 0
  · subst hd
    have z2 : n * (a * n * n + b * n * e + c * e * e) = 0 := by grind
    have z3 : a * n * n + b * n * e + c * e * e = 0 := by
      rcases Int.mul_eq_zero.1 z2 with q | q
      · exact (hn q).elim
      · exact q
    by_cases hc : c = 0
    · subst hc
      have z4 : n * (a * n + b * e) = 0 := by grind
      have z5 : a * n + b * e = 0 := by
        rcases Int.mul_eq_zero.1 z4 with q | q
        · exact (hn q).elim
        · exact q
      simp only [ne_eq, not_true_eq_false, if_false]
      by_cases hb : b = 0
      · subst hb
        have : a * n = 0 := by omega
        rcases Int.mul_eq_zero.1 this with q | q
        · subst q; simp
        · exact (hn q).elim
      · rw [if_neg hb]
        exact cop3 h' ⟨-a, by grind⟩
    · simp only [ne_eq, not_true_eq_false, if_false, hc, not_false_eq_true, if_true]
      exact cop3 h' (cop3 h' ⟨-(a * n + b * e), by grind⟩)
  · simp only [ne_eq, hd, not_false_eq_true, if_true, if_false]
    exact cop3 h' (cop3 h' (cop3 h' ⟨-(a * n * n + b * n * e + c * e * e), by grind⟩))
theorem root_zero {a b c d e : Int} (he : 1 ≤ e) (h : Int.gcd 0 e = 1) (hz : cuV a b c d 0 e = 0) : d = 0 ∧ e = 1 := by
  have e1 : e = 1 := by rw [Int.gcd_zero_left] at h; omega
  subst e1
  refine ⟨?_, rfl⟩
  unfold cuV at hz
  simpa using hz
end Go.Proofs.Ytldonmcbnhgbdaa
