/- Plain words: what a factor taken out leaves, and the roots in order. No program in sight. -/
import Derived.Test.YtldonmcbnhgbdaaCrP
import Derived.Test.YtldonmcbnhgbdaaCuF
import Derived.Test.YtldonmcbnhgbdaaCuL
import Derived.Test.YtldonmcbnhgbdaaCu2
namespace Go.Proofs.Ytldonmcbnhgbdaa
open Go.RowKit
set_option linter.unusedVariables false
set_option maxRecDepth 20000
set_option linter.unusedSimpArgs false

theorem frB_gcd {n e : Int} (h : frB n e = true) : Int.gcd n e = 1 := by
  simp [frB, gcdI] at h
  have := h.2
  omega
theorem fo_fact {a b c d n e : Int} (h : foB a b c d n e = true) : e * foA a e = a ∧ e * foC b n e (foA a e) - n * foA a e = b ∧ e * foC c n e (foC b n e (foA a e)) - n * foC b n e (foA a e) = c ∧ -n * foC c n e (foC b n e (foA a e)) = d := by
  simp only [foB, Bool.and_eq_true, decide_eq_true_eq] at h
  obtain ⟨h1, h2, h3, h4, h5⟩ := h
  have hg := frB_gcd h2
  have he : 1 ≤ e := (frB_bd h2).1
  have ha := Int.mul_tdiv_cancel' (root_den hg h5)
  unfold foC foA
  generalize a.tdiv e = X at *
  have z1 : X * n * n * n + b * n * n + c * n * e + d * e * e = 0 := by
    have : e * (X * n * n * n + b * n * n + c * n * e + d * e * e) = 0 := by rw [← h5, ← ha]; unfold cuV; grind
    rcases Int.mul_eq_zero.1 this with h | h
    · omega
    · exact h
  have hb := Int.mul_tdiv_cancel' (cop3 hg (cop3 (k := (b + n * X) * n) hg ⟨-(c * n + d * e), by grind⟩) : e ∣ b + n * X)
  generalize (b + n * X).tdiv e = Y at *
  have z2 : Y * n * n + c * n + d * e = 0 := by
    have : e * (Y * n * n + c * n + d * e) = 0 := by rw [← z1]; grind
    rcases Int.mul_eq_zero.1 this with h | h
    · omega
    · exact h
  have hc := Int.mul_tdiv_cancel' (cop3 (k := c + n * Y) hg ⟨-d, by grind⟩ : e ∣ c + n * Y)
  generalize (c + n * Y).tdiv e = Z at *
  have z3 : Z * n + d = 0 := by
    have : e * (Z * n + d) = 0 := by rw [← z2]; grind
    rcases Int.mul_eq_zero.1 this with h | h
    · omega
    · exact h
  refine ⟨ha, by omega, by omega, ?_⟩
  rw [Int.neg_mul, Int.mul_comm n Z]
  omega
theorem fo_bd {a b c d n e : Int} (h : foB a b c d n e = true) : (1 ≤ e ∧ e ≤ 1000) ∧ (-1000 ≤ n ∧ n ≤ 1000) ∧ (-1000 ≤ foA a e ∧ foA a e ≤ 1000) ∧ (-1001000 ≤ foC b n e (foA a e) ∧ foC b n e (foA a e) ≤ 1001000) ∧
    (-1001001000 ≤ foC c n e (foC b n e (foA a e)) ∧ foC c n e (foC b n e (foA a e)) ≤ 1001001000) := by
  simp only [foB, Bool.and_eq_true, decide_eq_true_eq] at h
  obtain ⟨h1, h2, h3, h4, h5⟩ := h
  obtain ⟨-, ha, hb, hc, hd⟩ := cuB_bd h1
  have he : 1 ≤ e := (frB_bd h2).1
  have hn : -1000 ≤ n ∧ n ≤ 1000 := by unfold absI at h3; omega
  unfold foC foA
  have q1 := tdiv_bd a e
  generalize a.tdiv e = X at *
  have m1 := mul_bd (a := n) (b := X) (A := 1000) (B := 1000) (by omega) (by omega)
  have q2 := tdiv_bd (b + n * X) e
  generalize (b + n * X).tdiv e = Y at *
  have m2 := mul_bd (a := n) (b := Y) (A := 1000) (B := 1001000) (by omega) (by omega)
  have q3 := tdiv_bd (c + n * Y) e
  generalize (c + n * Y).tdiv e = Z at *
  omega
/-- a rational root: its factor is taken out, and its sign is 0 -/
theorem rt_call {a b c d : Int} (h : cuB a b c d = true) {x : Fr2} (hx : RtP a b c d x) : foB a b c d x.1 x.2 = true ∧ cfB a b c d x.1 x.2 = true ∧ cfV a b c d x.1 x.2 = 0 ∧ (1 ≤ x.2 ∧ x.2 ≤ 1000) ∧ (-1000 ≤ x.1 ∧ x.1 ≤ 1000) := by
  obtain ⟨b0, b1, b2, b3, b4⟩ := cuB_bd h
  obtain ⟨f1, f2, f3, f4⟩ := rt_fx b1 b2 b3 b4 b0 hx
  have hg : (gcdI x.1 x.2 == 1) = true := by simp [gcdI, hx.low]
  have hf : frB x.1 x.2 = true := by
    unfold frB
    rw [hg, inB_true (by omega) (by omega), inB_true (by omega) (by omega)]
    rfl
  have hc : cfB a b c d x.1 x.2 = true := by
    unfold cfB
    rw [h, hf, inB_true (by omega) (by omega)]
    simp; omega
  refine ⟨?_, hc, ?_, ⟨f1, f2⟩, ⟨f3, f4⟩⟩
  · unfold foB
    rw [h, hf]
    simp only [Bool.true_and, Bool.and_eq_true, decide_eq_true_eq]
    exact ⟨by unfold absI; omega, f2, hx.zero⟩
  · unfold cfV
    rw [if_pos hc, hx.zero]
    rfl
end Go.Proofs.Ytldonmcbnhgbdaa
