/- Lemmas and contracts of functions. No condition. -/
import Derived.Test.YtnemnkbcbokafaaGreatPk1
import Derived.Laws.FloatArith
namespace Go.Proofs.YtnemnkbcbokafaaGreat
open Go.RowKit Ieee
set_option linter.unusedVariables false
set_option linter.unusedSimpArgs false
set_option maxRecDepth 20000
theorem rootFrom_sq (n : Nat) : ∀ todo root, root * root ≤ n → Datum.rootFrom n todo root * Datum.rootFrom n todo root ≤ n
  | 0, root, h => h
  | t + 1, root, h => by
    unfold Datum.rootFrom
    dsimp only
    split
    · exact rootFrom_sq n t _ (by assumption)
    · exact rootFrom_sq n t _ h
theorem log_lt (n : Nat) : n < 2 ^ (n.log2 + 1) := Nat.lt_log2_self
theorem cut_even_le {s : Bool} {N d : Nat} (h : N < 2 ^ 53 * 2 ^ d) : Toward.even.cut s N d ≤ 2 ^ 53 := by
  unfold Toward.cut
  dsimp only
  have hlow : N / (1 <<< min d (N.log2 + 2)) < 2 ^ 53 := by
    rw [Nat.one_shiftLeft]
    by_cases hd : d ≤ N.log2 + 2
    · rw [Nat.min_eq_left hd]
      exact Nat.div_lt_of_lt_mul (by rw [Nat.mul_comm]; exact h)
    · rw [Nat.min_eq_right (by omega), Nat.div_eq_of_lt]
      · exact Nat.two_pow_pos _
      · exact Nat.lt_of_lt_of_le (log_lt N) (Nat.pow_le_pow_right (by omega) (by omega))
  generalize N / (1 <<< min d (N.log2 + 2)) = a at *
  have hb : ∀ b : Bool, b.toNat ≤ 1 := fun b => by cases b <;> decide
  exact Nat.le_trans (Nat.add_le_add_left (hb _) a) hlow
theorem cut_zero_lt {s : Bool} {N d k : Nat} (h : N < 2 ^ k * 2 ^ d) : Toward.zero.cut s N d < 2 ^ k := by
  unfold Toward.cut
  dsimp only
  simp only [Bool.toNat_false, Nat.add_zero]
  rw [Nat.one_shiftLeft]
  by_cases hd : d ≤ N.log2 + 2
  · rw [Nat.min_eq_left hd]
    exact Nat.div_lt_of_lt_mul (by rw [Nat.mul_comm]; exact h)
  · rw [Nat.min_eq_right (by omega), Nat.div_eq_of_lt]
    · exact Nat.two_pow_pos _
    · exact Nat.lt_of_lt_of_le (log_lt N) (Nat.pow_le_pow_right (by omega) (by omega))
theorem near_rung {m : Nat} {p k : Int} (hm : m ≠ 0) (hL : (m.log2 : Int) + p ≤ k) (hk : -1000 ≤ k) : double.nearest false m p ≤ (k + 1022).toNat * 2 ^ 52 + 2 ^ 53 := by
  unfold Format.nearest
  rw [if_neg hm]
  dsimp only
  have e1 : double.leastPlace = -1074 := by decide
  have e2 : double.fractionBits = 52 := rfl
  have e3 : double.binade = 2 ^ 52 := rfl
  rw [e1, e2, e3]
  generalize hl : max (p + (m.log2 : Int) - (52 : Nat)) (-1074) = last
  have hcut : Toward.even.cut false (m <<< (p - last).toNat) (last - p).toNat ≤ 2 ^ 53 := by
    apply cut_even_le
    rw [Nat.shiftLeft_eq, ← Nat.pow_add]
    calc m * 2 ^ (p - last).toNat < 2 ^ (m.log2 + 1) * 2 ^ (p - last).toNat := Nat.mul_lt_mul_of_pos_right (log_lt m) (Nat.two_pow_pos _)
      _ = 2 ^ (m.log2 + 1 + (p - last).toNat) := (Nat.pow_add 2 (m.log2 + 1) _).symm
      _ ≤ 2 ^ (53 + (last - p).toNat) := Nat.pow_le_pow_right (by omega) (by omega)
  have h4 : (last - -1074).toNat ≤ (k + 1022).toNat := by omega
  show (if false = true then _ else _) ≤ _
  rw [if_neg (by decide)]
  refine Nat.le_trans (Nat.min_le_left _ _) ?_
  exact Nat.add_le_add (Nat.mul_le_mul_right _ h4) hcut
theorem read_lt {r : Nat} {k : Int} (hk : -1000 ≤ k) (hk2 : k ≤ 900) (h : r ≤ (k + 1022).toNat * 2 ^ 52 + 2 ^ 53) : ∃ m e, double.read r = .number false m e ∧ m < 2 ^ 53 ∧ e ≤ k - 51 := by
  have e1 : double.leastPlace = -1074 := by decide
  have e3 : double.binade = 2 ^ 52 := rfl
  have e4 : double.signWeight = 2 ^ 63 := rfl
  have e5 : double.infRung = 2047 * 2 ^ 52 := by decide
  unfold Format.read
  rw [e1, e3, e4, e5]
  have hr : r < 2047 * 2 ^ 52 := by omega
  have h1 : r % 2 ^ 63 = r := Nat.mod_eq_of_lt (by omega)
  have h2 : r / 2 ^ 63 = 0 := Nat.div_eq_of_lt (by omega)
  rw [h1, h2]
  dsimp only
  by_cases h3 : r < 2 ^ 52
  · rw [if_pos h3]
    exact ⟨r, -1074, rfl, by omega, by omega⟩
  · rw [if_neg h3, if_pos hr]
    exact ⟨_, _, rfl, by omega, by omega⟩
/-- the number that a square root in floating point gives, cut to an integer -/
theorem sqrt_small {n : Nat} (h : n < 2 ^ 44) : ∃ r : Nat, ∃ z : Nat, double.sqrt (double.nearest false n 0) = some r ∧ (double.read r).toInt .zero = some (z : Int) ∧ z < 2 ^ 24 := by
  have hx : ∃ m e, double.read (double.nearest false n 0) = .number false m e ∧ m < 2 ^ 53 ∧ e ≤ -8 := by
    by_cases hn : n = 0
    · subst hn
      exact ⟨0, -1074, by decide, by decide, by decide⟩
    · have hl : n.log2 < 44 := (Nat.log2_lt hn).2 h
      exact read_lt (k := 43) (by omega) (by omega) (near_rung hn (by omega) (by omega))
  obtain ⟨m, i, hr, hm, hi⟩ := hx
  unfold Format.sqrt
  rw [hr]
  unfold Datum.root
  dsimp only
  by_cases h0 : m = 0
  · rw [if_pos h0]
    refine ⟨0, 0, ?_, by decide, by decide⟩
    subst h0
    rfl
  · rw [if_neg h0, if_neg (by decide)]
    have e2 : double.fractionBits + 2 = 54 := rfl
    rw [e2]
    generalize hmo : 2 * 54 - m.log2 + ((i - ((2 * 54 - m.log2 : Nat) : Int)) % 2).toNat = more
    have hml : m.log2 < 53 := (Nat.log2_lt h0).2 hm
    have hmo1 : m.log2 + 1 + more ≤ 110 := by omega
    have hmo2 : 56 ≤ more := by omega
    have hsq := rootFrom_sq (m <<< more) ((m <<< more).log2 / 2 + 1) 0 (Nat.zero_le _)
    generalize Datum.rootFrom (m <<< more) ((m <<< more).log2 / 2 + 1) 0 = wh at *
    have hlt : m <<< more < 2 ^ 110 := by
      rw [Nat.shiftLeft_eq]
      calc m * 2 ^ more < 2 ^ (m.log2 + 1) * 2 ^ more := Nat.mul_lt_mul_of_pos_right (log_lt m) (Nat.two_pow_pos _)
        _ = 2 ^ (m.log2 + 1 + more) := (Nat.pow_add 2 (m.log2 + 1) _).symm
        _ ≤ 2 ^ 110 := Nat.pow_le_pow_right (by omega) (by omega)
    have hw : wh < 2 ^ 55 := by
      apply Nat.lt_of_not_le; intro hge
      have := Nat.mul_le_mul hge hge
      omega
    have hq : ∀ b : Bool, 2 * wh + b.toNat < 2 ^ 56 := fun b => by cases b <;> simp <;> omega
    generalize hqq : 2 * wh + (wh * wh != m <<< more).toNat = q
    have hq1 : q < 2 ^ 56 := hqq ▸ hq _
    have hp : (i - (more : Int)) / 2 - 1 ≤ -33 := by omega
    generalize (i - (more : Int)) / 2 - 1 = pl at *
    have hy : ∃ m3 e3, double.read (double.write (.number false q pl)) = .number false m3 e3 ∧ m3 < 2 ^ 53 ∧ e3 ≤ -29 := by
      show ∃ m3 e3, double.read (double.nearest false q pl) = .number false m3 e3 ∧ m3 < 2 ^ 53 ∧ e3 ≤ -29
      by_cases hn : q = 0
      · subst hn
        refine ⟨0, -1074, ?_, by decide, by decide⟩
        unfold Format.nearest
        rw [if_pos rfl]
        decide
      · have hl : q.log2 < 56 := (Nat.log2_lt hn).2 hq1
        exact read_lt (k := 22) (by omega) (by omega) (near_rung hn (by omega) (by omega))
    obtain ⟨m3, e3, hr3, hm3, he3⟩ := hy
    refine ⟨_, Toward.zero.cut false (m3 <<< e3.toNat) (-e3).toNat, rfl, ?_, ?_⟩
    · rw [hr3]; simp [Datum.toInt, Datum.integral, signed]
    · have he0 : e3.toNat = 0 := by omega
      rw [he0, Nat.shiftLeft_zero]
      apply cut_zero_lt
      rw [← Nat.pow_add]
      exact Nat.lt_of_lt_of_le hm3 (Nat.pow_le_pow_right (by omega) (by omega))
end Go.Proofs.YtnemnkbcbokafaaGreat
