/- Plain words: the cells of a cubic's real roots, and how many there can be. No program in sight. -/
import Derived.Test.YtldonmcbnhgbdaaCuQ
namespace Go.Proofs.Ytldonmcbnhgbdaa
open Go.RowKit
set_option linter.unusedVariables false
set_option maxRecDepth 20000
set_option linter.unusedSimpArgs false

theorem ltge (x y : Int) : x < y ∨ y ≤ x := by omega
def cellB (a b c d k : Int) : Bool := decide (cuV a b c d k 1 = 0) || (decide (cuV a b c d k 1 < 0) && decide (0 < cuV a b c d (k + 1) 1) || decide (0 < cuV a b c d k 1) && decide (cuV a b c d (k + 1) 1 < 0))
def rcN (a b c d lo : Int) : Nat → List Int
  | 0 => []
  | n + 1 => rcN a b c d lo n ++ (if cellB a b c d (lo + n) = true then [lo + n] else [])
theorem rcN_succ (a b c d lo : Int) (n : Nat) : rcN a b c d lo (n + 1) = rcN a b c d lo n ++ (if cellB a b c d (lo + n) = true then [lo + n] else []) := rfl
theorem rcN_len (a b c d lo : Int) : ∀ n, (rcN a b c d lo n).length ≤ n
  | 0 => by simp [rcN]
  | n + 1 => by
    have := rcN_len a b c d lo n
    unfold rcN
    split <;> simp <;> omega
theorem rcN_add (a b c d lo : Int) (m : Nat) : ∀ n, rcN a b c d lo (m + n) = rcN a b c d lo m ++ rcN a b c d (lo + m) n
  | 0 => by simp [rcN]
  | n + 1 => by
    rw [show m + (n + 1) = (m + n) + 1 from rfl, rcN_succ, rcN_succ]
    rw [rcN_add a b c d lo m n, List.append_assoc, show lo + ((m + n : Nat) : Int) = lo + m + n by omega]
theorem rcN_mem {a b c d lo : Int} {x : Int} : ∀ {n : Nat}, x ∈ rcN a b c d lo n ↔ (lo ≤ x ∧ x < lo + n) ∧ cellB a b c d x = true
  | 0 => by simp [rcN]; omega
  | n + 1 => by
    unfold rcN
    rw [List.mem_append, rcN_mem]
    by_cases h : cellB a b c d (lo + n) = true
    · rw [if_pos h, List.mem_singleton]
      constructor
      · rintro (⟨h1, h2⟩ | rfl)
        · exact ⟨by omega, h2⟩
        · exact ⟨by omega, h⟩
      · rintro ⟨h1, h2⟩
        by_cases e : x = lo + n
        · exact .inr e
        · exact .inl ⟨by omega, h2⟩
    · rw [if_neg h]
      constructor
      · rintro (⟨h1, h2⟩ | h1)
        · exact ⟨by omega, h2⟩
        · cases h1
      · rintro ⟨h1, h2⟩
        by_cases e : x = lo + n
        · exact (h (e ▸ h2)).elim
        · exact .inl ⟨by omega, h2⟩
theorem rcN_sorted (a b c d lo : Int) : ∀ n, (rcN a b c d lo n).Pairwise (· < ·)
  | 0 => by simp [rcN]
  | n + 1 => by
    unfold rcN
    rw [List.pairwise_append]
    refine ⟨rcN_sorted a b c d lo n, by split <;> simp, fun x hx y hy => ?_⟩
    have := (rcN_mem.1 hx).1
    split at hy
    · rw [List.mem_singleton] at hy; omega
    · cases hy
theorem rc_none {a b c d k : Int} (h : cuB a b c d = true) (hk : k = -1003 ∨ k = -1002 ∨ k = 1002 ∨ k = 1003) : cellB a b c d k = false := by
  obtain ⟨h0, h1, h2, h3, h4⟩ := cuB_bd h
  unfold cellB cuV
  rcases hk with rfl | rfl | rfl | rfl
  all_goals
    simp only [Bool.or_eq_false_iff, Bool.and_eq_false_iff, decide_eq_false_iff_not]
    omega
/-- both windows have the same cells -/
theorem rc_same {a b c d : Int} (h : cuB a b c d = true) : rcN a b c d (-1003) 2007 = rcN a b c d (-1001) 2003 := by
  rw [show (2007 : Nat) = 2 + (2003 + 2) from rfl, rcN_add, rcN_add]
  have e1 : rcN a b c d (-1003) 2 = [] := by
    unfold rcN rcN rcN
    simp [rc_none h]
  have e2 : rcN a b c d (-1003 + (2 : Nat) + (2003 : Nat)) 2 = [] := by
    unfold rcN rcN rcN
    simp [rc_none h]
  rw [e1, e2]
  simp
/-! ### how many -/
def dcV (a b c d : Int) : Int := b * b * c * c - 4 * a * c * c * c - 4 * b * b * b * d - 27 * a * a * d * d + 18 * a * b * c * d
def dlV (a b c : Int) : Int := b * b - 3 * a * c
def quV (a b c d : Int) : Int := 2 * b * b * b - 9 * a * b * c + 27 * a * a * d
def rnV (a b c d : Int) : Int := if 0 < dcV a b c d then 3 else if dcV a b c d < 0 ∨ b * b = 3 * a * c then 1 else 2
theorem dc_id (a b c d : Int) : 27 * a * a * dcV a b c d = 4 * (dlV a b c * dlV a b c * dlV a b c) - quV a b c d * quV a b c d := by unfold dcV dlV quV; grind
def yV (a b x : Int) : Int := 3 * a * x + b
theorem h_id (a b c d x : Int) : 27 * a * a * cuV a b c d x 1 = yV a b x * yV a b x * yV a b x - 3 * dlV a b c * yV a b x + quV a b c d := by unfold cuV yV dlV quV; grind
theorem sq_nonneg (x : Int) : 0 ≤ x * x := by
  rcases Int.le_total 0 x with h | h
  · exact Int.mul_nonneg h h
  · exact Int.mul_nonneg_of_nonpos_of_nonpos h h
theorem sq_le {x y : Int} (h1 : 0 ≤ x) (h2 : x ≤ y) : x * x ≤ y * y := Int.mul_le_mul h2 h2 h1 (by omega)
/-- where the values fall, the discriminant is not negative -/
theorem fall_abs {D Q y z : Int} (hyz : y < z) (h1 : 0 ≤ y * y * y - 3 * D * y + Q) (h2 : z * z * z - 3 * D * z + Q ≤ 0) : Q * Q ≤ 4 * (D * D * D) ∧ 0 < D := by
  have e1 : (z - y) * (z * z + y * z + y * y - 3 * D) ≤ 0 := by
    have : (z - y) * (z * z + y * z + y * y - 3 * D) = (z * z * z - 3 * D * z + Q) - (y * y * y - 3 * D * y + Q) := by grind
    omega
  have e2 : z * z + y * z + y * y ≤ 3 * D := by
    rcases ltge 0 (z * z + y * z + y * y - 3 * D) with h | h
    · have := Int.mul_pos (show 0 < z - y by omega) h
      omega
    · omega
  have a1 : 4 * (z * z + y * z + y * y) = 3 * (z * z) + (z + 2 * y) * (z + 2 * y) := by grind
  have a2 : 4 * (z * z + y * z + y * y) = 3 * (y * y) + (y + 2 * z) * (y + 2 * z) := by grind
  have s1 := sq_nonneg (z + 2 * y)
  have s2 := sq_nonneg (y + 2 * z)
  have b1 : z * z ≤ 4 * D := by omega
  have b2 : y * y ≤ 4 * D := by omega
  have hD : 0 < D := by
    have a3 : 4 * (z * z + y * z + y * y) = (z - y) * (z - y) + 3 * ((z + y) * (z + y)) := by grind
    have s3 := sq_nonneg (z + y)
    have s4 := Int.mul_pos (show 0 < z - y by omega) (show 0 < z - y by omega)
    omega
  have key : ∀ t : Int, t * t ≤ 4 * D → (3 * D * t - t * t * t) * (3 * D * t - t * t * t) ≤ 4 * (D * D * D) := by
    intro t ht
    have : 4 * (D * D * D) - (3 * D * t - t * t * t) * (3 * D * t - t * t * t) = (4 * D - t * t) * ((D - t * t) * (D - t * t)) := by grind
    have := Int.mul_nonneg (show 0 ≤ 4 * D - t * t by omega) (sq_nonneg (D - t * t))
    omega
  refine ⟨?_, hD⟩
  have k1 := key y b2
  have k2 := key z b1
  rcases Int.le_total 0 Q with hQ | hQ
  · have := sq_le hQ (show Q ≤ 3 * D * z - z * z * z by omega)
    omega
  · have := sq_le (show 0 ≤ -Q by omega) (show -Q ≤ -(3 * D * y - y * y * y) by omega)
    have e3 : -Q * -Q = Q * Q := by grind
    have e4 : -(3 * D * y - y * y * y) * -(3 * D * y - y * y * y) = (3 * D * y - y * y * y) * (3 * D * y - y * y * y) := by grind
    omega
theorem fall {a b c d p q : Int} (ha : 0 < a) (hpq : p < q) (h1 : 0 ≤ cuV a b c d p 1) (h2 : cuV a b c d q 1 ≤ 0) : 0 ≤ dcV a b c d ∧ 0 < dlV a b c := by
  have hy : yV a b p < yV a b q := by
    unfold yV
    have := Int.mul_lt_mul_of_pos_left hpq (show 0 < 3 * a by omega)
    omega
  have i1 := h_id a b c d p
  have i2 := h_id a b c d q
  have haa : 0 < 27 * a * a := Int.mul_pos (by omega) ha
  have p1 := Int.mul_nonneg (show 0 ≤ 27 * a * a by omega) h1
  have p2 : 27 * a * a * cuV a b c d q 1 ≤ 0 := by
    have := Int.mul_nonneg (show 0 ≤ 27 * a * a by omega) (show 0 ≤ -cuV a b c d q 1 by omega)
    rw [Int.mul_neg] at this
    omega
  have := fall_abs (D := dlV a b c) (Q := quV a b c d) hy (by omega) (by omega)
  refine ⟨?_, this.2⟩
  have hd := dc_id a b c d
  rcases ltge (dcV a b c d) 0 with h | h
  · have := Int.mul_pos haa (show 0 < -dcV a b c d by omega)
    rw [Int.mul_neg] at this
    omega
  · exact h
/-- + - + - cannot be -/
theorem four_signs {a b c d p q r s : Int} (ha : 0 < a) (hpq : p < q) (hqr : q < r) (hrs : r < s) (h1 : 0 ≤ cuV a b c d p 1) (h2 : cuV a b c d q 1 ≤ 0) (h3 : 0 ≤ cuV a b c d r 1) (h4 : cuV a b c d s 1 ≤ 0) : False := by
  obtain ⟨g, hg⟩ : ∃ g, q - p = g := ⟨_, rfl⟩
  obtain ⟨h, hh⟩ : ∃ h, r - q = h := ⟨_, rfl⟩
  obtain ⟨i, hi⟩ : ∃ i, s - r = i := ⟨_, rfl⟩
  obtain rfl : q = p + g := by omega
  obtain rfl : r = p + g + h := by omega
  obtain rfl : s = p + g + h + i := by omega
  have id : a * (g * h * i * (g + h) * (h + i) * (g + h + i)) = - (cuV a b c d p 1 * (h * i * (h + i))) + cuV a b c d (p + g) 1 * (i * (g + h) * (g + h + i)) - cuV a b c d (p + g + h) 1 * (g * (h + i) * (g + h + i)) + cuV a b c d (p + g + h + i) 1 * (g * h * (g + h)) := by
    unfold cuV; grind
  have g0 : 0 < g := by omega
  have h0 : 0 < h := by omega
  have i0 : 0 < i := by omega
  have P : 0 < a * (g * h * i * (g + h) * (h + i) * (g + h + i)) := Int.mul_pos ha (Int.mul_pos (Int.mul_pos (Int.mul_pos (Int.mul_pos (Int.mul_pos g0 h0) i0) (by omega)) (by omega)) (by omega))
  have m1 := Int.mul_nonneg h1 (show 0 ≤ h * i * (h + i) from Int.mul_nonneg (Int.mul_nonneg (by omega) (by omega)) (by omega))
  have m2 := Int.mul_nonneg (show 0 ≤ -cuV a b c d (p + g) 1 by omega) (show 0 ≤ i * (g + h) * (g + h + i) from Int.mul_nonneg (Int.mul_nonneg (by omega) (by omega)) (by omega))
  have m3 := Int.mul_nonneg h3 (show 0 ≤ g * (h + i) * (g + h + i) from Int.mul_nonneg (Int.mul_nonneg (by omega) (by omega)) (by omega))
  have m4 := Int.mul_nonneg (show 0 ≤ -cuV a b c d (p + g + h + i) 1 by omega) (show 0 ≤ g * h * (g + h) from Int.mul_nonneg (Int.mul_nonneg (by omega) (by omega)) (by omega))
  rw [Int.neg_mul] at m2 m4
  omega
theorem cellB_cases {a b c d k : Int} (h : cellB a b c d k = true) : cuV a b c d k 1 = 0 ∨ (cuV a b c d k 1 < 0 ∧ 0 < cuV a b c d (k + 1) 1) ∨ (0 < cuV a b c d k 1 ∧ cuV a b c d (k + 1) 1 < 0) := by
  simpa [cellB] using h
/-- a cell has points of both signs; a chain goes on in the next cell -/
theorem chain_pos {a b c d k : Int} (h : cellB a b c d k = true) : ∃ q, k ≤ q ∧ q ≤ k + 1 ∧ (q = k + 1 → cuV a b c d q 1 ≠ 0) ∧ 0 ≤ cuV a b c d q 1 := by
  rcases cellB_cases h with e | ⟨e1, e2⟩ | ⟨e1, e2⟩
  · exact ⟨k, by omega, by omega, by omega, by omega⟩
  · exact ⟨k + 1, by omega, by omega, fun _ => by omega, by omega⟩
  · exact ⟨k, by omega, by omega, by omega, by omega⟩
theorem chain_down {a b c d k p : Int} (h : cellB a b c d k = true) (hp : p ≤ k) (hz : p = k → cuV a b c d p 1 ≠ 0) (h0 : 0 ≤ cuV a b c d p 1) : ∃ q, p < q ∧ q ≤ k + 1 ∧ (q = k + 1 → cuV a b c d q 1 ≠ 0) ∧ cuV a b c d q 1 ≤ 0 := by
  by_cases hpk : p = k
  · subst hpk
    have := hz rfl
    rcases cellB_cases h with e | ⟨e1, e2⟩ | ⟨e1, e2⟩
    · omega
    · omega
    · exact ⟨p + 1, by omega, by omega, fun _ => by omega, by omega⟩
  · rcases cellB_cases h with e | ⟨e1, e2⟩ | ⟨e1, e2⟩
    · exact ⟨k, by omega, by omega, by omega, by omega⟩
    · exact ⟨k, by omega, by omega, by omega, by omega⟩
    · exact ⟨k + 1, by omega, by omega, fun _ => by omega, by omega⟩
theorem chain_up {a b c d k p : Int} (h : cellB a b c d k = true) (hp : p ≤ k) (hz : p = k → cuV a b c d p 1 ≠ 0) (h0 : cuV a b c d p 1 ≤ 0) : ∃ q, p < q ∧ q ≤ k + 1 ∧ (q = k + 1 → cuV a b c d q 1 ≠ 0) ∧ 0 ≤ cuV a b c d q 1 := by
  by_cases hpk : p = k
  · subst hpk
    have := hz rfl
    rcases cellB_cases h with e | ⟨e1, e2⟩ | ⟨e1, e2⟩
    · omega
    · exact ⟨p + 1, by omega, by omega, fun _ => by omega, by omega⟩
    · omega
  · rcases cellB_cases h with e | ⟨e1, e2⟩ | ⟨e1, e2⟩
    · exact ⟨k, by omega, by omega, by omega, by omega⟩
    · exact ⟨k + 1, by omega, by omega, fun _ => by omega, by omega⟩
    · exact ⟨k, by omega, by omega, by omega, by omega⟩
theorem two_cells {a b c d k l : Int} (ha : 0 < a) (hkl : k < l) (h1 : cellB a b c d k = true) (h2 : cellB a b c d l = true) : 0 ≤ dcV a b c d ∧ 0 < dlV a b c := by
  obtain ⟨p, _, p1, p2, p3⟩ := chain_pos h1
  obtain ⟨q, q1, q2, q3, q4⟩ := chain_down h2 (by omega) (fun e => p2 (by omega)) p3
  exact fall ha q1 p3 q4
theorem four_cells {a b c d k l m n : Int} (ha : 0 < a) (hkl : k < l) (hlm : l < m) (hmn : m < n) (h1 : cellB a b c d k = true) (h2 : cellB a b c d l = true) (h3 : cellB a b c d m = true) (h4 : cellB a b c d n = true) : False := by
  obtain ⟨p, _, p1, p2, p3⟩ := chain_pos h1
  obtain ⟨q, q1, q2, q3, q4⟩ := chain_down h2 (by omega) (fun e => p2 (by omega)) p3
  obtain ⟨r, r1, r2, r3, r4⟩ := chain_up h3 (by omega) (fun e => q3 (by omega)) q4
  obtain ⟨s, s1, s2, s3, s4⟩ := chain_down h4 (by omega) (fun e => r3 (by omega)) r4
  exact four_signs ha q1 r1 s1 p3 q4 r4 s4
/-- with a double root there are no three cells -/
theorem three_cells {a b c d k l m : Int} (ha : 0 < a) (hkl : k < l) (hlm : l < m) (h1 : cellB a b c d k = true) (h2 : cellB a b c d l = true) (h3 : cellB a b c d m = true) (hz : dcV a b c d = 0) : False := by
  have hD := (two_cells ha hkl h1 h2).2
  have hd := dc_id a b c d
  rw [hz, Int.mul_zero] at hd
  obtain ⟨D, eD⟩ : ∃ D, dlV a b c = D := ⟨_, rfl⟩
  obtain ⟨Q, eQ⟩ : ∃ Q, quV a b c d = Q := ⟨_, rfl⟩
  rw [eD, eQ] at hd
  rw [eD] at hD
  have hQ : Q * Q = 4 * (D * D * D) := by omega
  have hDDD : 0 < D * D * D := Int.mul_pos (Int.mul_pos hD hD) hD
  have haa : 0 < 27 * a * a := Int.mul_pos (by omega) ha
  have id : ∀ x, 4 * (D * D * D) * (27 * a * a * cuV a b c d x 1) = (2 * D * yV a b x - Q) * (2 * D * yV a b x - Q) * (D * yV a b x + Q) := by
    intro x
    have := h_id a b c d x
    rw [eD, eQ] at this
    rw [this]
    generalize yV a b x = y
    grind
  have pos : ∀ x, 0 < cuV a b c d x 1 → 0 < D * yV a b x + Q := by
    intro x hx
    have h4 : 0 < 4 * (D * D * D) * (27 * a * a * cuV a b c d x 1) := Int.mul_pos (by omega) (Int.mul_pos haa hx)
    rw [id] at h4
    rcases ltge 0 (D * yV a b x + Q) with h | h
    · exact h
    · have := Int.mul_nonneg (sq_nonneg (2 * D * yV a b x - Q)) (show 0 ≤ -(D * yV a b x + Q) by omega)
      rw [Int.mul_neg] at this
      omega
  have neg : ∀ x, cuV a b c d x 1 < 0 → D * yV a b x + Q < 0 := by
    intro x hx
    have h4 : 0 < 4 * (D * D * D) * (27 * a * a * -cuV a b c d x 1) := Int.mul_pos (by omega) (Int.mul_pos haa (by omega))
    rw [Int.mul_neg, Int.mul_neg, id] at h4
    rcases ltge (D * yV a b x + Q) 0 with h | h
    · exact h
    · have := Int.mul_nonneg (sq_nonneg (2 * D * yV a b x - Q)) h
      omega
  have zer : ∀ x, cuV a b c d x 1 = 0 → 2 * D * yV a b x = Q ∨ D * yV a b x + Q = 0 := by
    intro x hx
    have h4 := id x
    rw [hx, Int.mul_zero, Int.mul_zero] at h4
    rcases Int.mul_eq_zero.1 h4.symm with h | h
    · rcases Int.mul_eq_zero.1 h with h | h <;> exact .inl (by omega)
    · exact .inr h
  have mono : ∀ x y, x < y → D * yV a b x < D * yV a b y := by
    intro x y hxy
    refine Int.mul_lt_mul_of_pos_left ?_ hD
    unfold yV
    have := Int.mul_lt_mul_of_pos_left hxy (show 0 < 3 * a by omega)
    omega
  have cls : ∀ x, cellB a b c d x = true → 2 * D * yV a b x = Q ∨ (D * yV a b x + Q ≤ 0 ∧ 0 < D * yV a b (x + 1) + Q) := by
    intro x hx
    have hm := mono x (x + 1) (by omega)
    rcases cellB_cases hx with e | ⟨e1, e2⟩ | ⟨e1, e2⟩
    · rcases zer x e with h | h
      · exact .inl h
      · exact .inr ⟨by omega, by omega⟩
    · have := neg _ e1; have := pos _ e2; exact .inr ⟨by omega, by omega⟩
    · have := pos _ e1; have := neg _ e2; omega
  have one : ∀ x y, x < y → 2 * D * yV a b x = Q → 2 * D * yV a b y = Q → False := by
    intro x y hxy u v
    have := mono x y hxy
    rw [Int.mul_assoc] at u v
    omega
  have two : ∀ x y, x < y → 0 < D * yV a b (x + 1) + Q → D * yV a b y + Q ≤ 0 → False := by
    intro x y hxy u v
    by_cases e : y = x + 1
    · subst e; omega
    · have := mono (x + 1) y (by omega)
      omega
  rcases cls _ h1 with u1 | u1 <;> rcases cls _ h2 with u2 | u2 <;> rcases cls _ h3 with u3 | u3
  all_goals first
    | exact one _ _ hkl u1 u2
    | exact one _ _ hlm u2 u3
    | exact one _ _ (by omega : k < m) u1 u3
    | exact two _ _ hkl u1.2 u2.1
    | exact two _ _ hlm u2.2 u3.1
    | exact two _ _ (by omega : k < m) u1.2 u3.1
theorem cuV_neg (a b c d x e : Int) : cuV (-a) (-b) (-c) (-d) x e = -cuV a b c d x e := by unfold cuV; grind
theorem cellB_neg (a b c d k : Int) : cellB (-a) (-b) (-c) (-d) k = cellB a b c d k := by
  unfold cellB
  rw [cuV_neg, cuV_neg]
  have e1 : ∀ x : Int, decide (-x = 0) = decide (x = 0) := fun x => by rw [decide_eq_decide]; omega
  have e2 : ∀ x : Int, decide (-x < 0) = decide (0 < x) := fun x => by rw [decide_eq_decide]; omega
  have e3 : ∀ x : Int, decide (0 < -x) = decide (x < 0) := fun x => by rw [decide_eq_decide]; omega
  simp only [e1, e2, e3]
  cases decide (cuV a b c d k 1 = 0) <;> cases decide (cuV a b c d k 1 < 0) <;> cases decide (0 < cuV a b c d (k + 1) 1) <;> cases decide (0 < cuV a b c d k 1) <;> cases decide (cuV a b c d (k + 1) 1 < 0) <;> rfl
theorem dcV_neg (a b c d : Int) : dcV (-a) (-b) (-c) (-d) = dcV a b c d := by unfold dcV; grind
theorem dlV_neg (a b c : Int) : dlV (-a) (-b) (-c) = dlV a b c := by unfold dlV; grind
/-- cells have no more roots than there are -/
theorem cells_len {a b c d : Int} (ha : a ≠ 0) (l : List Int) (hs : l.Pairwise (· < ·)) (hl : ∀ x ∈ l, cellB a b c d x = true) : (l.length : Int) ≤ rnV a b c d := by
  have P : ∀ {a b c d : Int}, 0 < a → ∀ l : List Int, l.Pairwise (· < ·) → (∀ x ∈ l, cellB a b c d x = true) → (2 ≤ l.length → 0 ≤ dcV a b c d ∧ 0 < dlV a b c) ∧ (3 ≤ l.length → dcV a b c d ≠ 0) ∧ ¬ (4 ≤ l.length) := by
    intro a b c d ha l hs hl
    match l, hs, hl with
    | [], _, _ => simp
    | [x], _, _ => simp
    | [x, y], hs, hl => exact ⟨fun _ => two_cells ha (by simp at hs; omega) (hl x (by simp)) (hl y (by simp)), by simp, by simp⟩
    | [x, y, z], hs, hl =>
      simp at hs
      exact ⟨fun _ => two_cells ha (show x < y by omega) (hl x (by simp)) (hl y (by simp)), fun _ h => three_cells ha (show x < y by omega) (show y < z by omega) (hl x (by simp)) (hl y (by simp)) (hl z (by simp)) h, by simp⟩
    | x :: y :: z :: u :: m, hs, hl =>
      simp at hs
      exact (four_cells ha (show x < y by omega) (show y < z by omega) (show z < u by omega) (hl x (by simp)) (hl y (by simp)) (hl z (by simp)) (hl u (by simp))).elim
  have Q : (2 ≤ l.length → 0 ≤ dcV a b c d ∧ 0 < dlV a b c) ∧ (3 ≤ l.length → dcV a b c d ≠ 0) ∧ ¬ (4 ≤ l.length) := by
    rcases ltge 0 a with h | h
    · exact P h l hs hl
    · have := P (a := -a) (b := -b) (c := -c) (d := -d) (by omega) l hs (fun x hx => by rw [cellB_neg]; exact hl x hx)
      rw [dcV_neg, dlV_neg] at this
      exact this
  obtain ⟨q1, q2, q3⟩ := Q
  unfold rnV
  unfold dlV at q1
  by_cases h1 : 0 < dcV a b c d
  · rw [if_pos h1]; omega
  · rw [if_neg h1]
    by_cases h2 : dcV a b c d < 0 ∨ b * b = 3 * a * c
    · rw [if_pos h2]
      rcases Nat.lt_or_ge l.length 2 with h3 | h3
      · omega
      · have := q1 h3; omega
    · rw [if_neg h2]
      rcases Nat.lt_or_ge l.length 3 with h3 | h3
      · omega
      · have := q2 h3; have := q1 (by omega); omega
/-- there is a cell -/
theorem rc_some {a b c d : Int} (h : cuB a b c d = true) : rcN a b c d (-1001) 2003 ≠ [] := by
  obtain ⟨h0, h1, h2, h3, h4⟩ := cuB_bd h
  have walk : ∀ (s : Int) (n : Nat) (lo : Int), s = 1 ∨ s = -1 → s * cuV a b c d lo 1 < 0 → 0 < s * cuV a b c d (lo + n) 1 → ∃ k, lo ≤ k ∧ k < lo + n ∧ cellB a b c d k = true := by
    intro s n
    induction n with
    | zero => intro lo hs u v; simp at v; omega
    | succ n ih =>
      intro lo hs u v
      rcases Int.lt_trichotomy (s * cuV a b c d (lo + n) 1) 0 with e | e | e
      · refine ⟨lo + n, by omega, by omega, ?_⟩
        rw [show lo + ((n + 1 : Nat) : Int) = lo + n + 1 by omega] at v
        unfold cellB
        rcases hs with rfl | rfl
        · have z1 : cuV a b c d (lo + n) 1 < 0 := by omega
          have z2 : 0 < cuV a b c d (lo + n + 1) 1 := by omega
          simp [z1, z2]
        · have z1 : 0 < cuV a b c d (lo + n) 1 := by omega
          have z2 : cuV a b c d (lo + n + 1) 1 < 0 := by omega
          simp [z1, z2]
      · refine ⟨lo + n, by omega, by omega, ?_⟩
        have z : cuV a b c d (lo + n) 1 = 0 := by rcases hs with rfl | rfl <;> omega
        simp [cellB, z]
      · obtain ⟨k, k1, k2, k3⟩ := ih lo hs u e
        exact ⟨k, k1, by omega, k3⟩
  have : ∃ k : Int, -1001 ≤ k ∧ k < -1001 + ((2003 : Nat) : Int) ∧ cellB a b c d k = true := by
    rcases ltge 0 a with ha | ha
    · exact walk 1 2003 (-1001) (.inl rfl) (by unfold cuV; omega) (by unfold cuV; omega)
    · exact walk (-1) 2003 (-1001) (.inr rfl) (by unfold cuV; omega) (by unfold cuV; omega)
  obtain ⟨k, k1, k2, k3⟩ := this
  intro e
  have := (rcN_mem (a := a) (b := b) (c := c) (d := d) (lo := -1001) (n := 2003) (x := k)).2 ⟨⟨k1, k2⟩, k3⟩
  rw [e] at this
  cases this
/-! ### no more than three rational roots -/
theorem four_zeros {a b c d p q r s : Int} (ha : a ≠ 0) (hpq : p < q) (hqr : q < r) (hrs : r < s) (h1 : cuV a b c d p 1 = 0) (h2 : cuV a b c d q 1 = 0) (h3 : cuV a b c d r 1 = 0) (h4 : cuV a b c d s 1 = 0) : False := by
  rcases ltge 0 a with h | h
  · exact four_signs (b := b) (c := c) (d := d) h hpq hqr hrs (by omega) (by omega) (by omega) (by omega)
  · have n : ∀ x, cuV (-a) (-b) (-c) (-d) x 1 = -cuV a b c d x 1 := fun x => cuV_neg _ _ _ _ _ _
    exact four_signs (a := -a) (b := -b) (c := -c) (d := -d) (by omega) hpq hqr hrs (by rw [n]; omega) (by rw [n]; omega) (by rw [n]; omega) (by rw [n]; omega)
theorem big_zero {a b c d n e m : Int} (h : cuV a b c d n e = 0) : cuV a (b * (e * m)) (c * (e * m) * (e * m)) (d * (e * m) * (e * m) * (e * m)) (n * m) 1 = 0 := by
  have : cuV a (b * (e * m)) (c * (e * m) * (e * m)) (d * (e * m) * (e * m) * (e * m)) (n * m) 1 = m * m * m * cuV a b c d n e := by unfold cuV; grind
  rw [this, h, Int.mul_zero]
theorem roots_len {a b c d : Int} (ha : a ≠ 0) (l : List Fr2) (hs : l.Pairwise ltF) (hl : ∀ x ∈ l, RtP a b c d x) : l.length ≤ 3 := by
  match l, hs, hl with
  | [], _, _ => simp
  | [x], _, _ => simp
  | [x, y], _, _ => simp
  | [x, y, z], _, _ => simp
  | (n1, e1) :: (n2, e2) :: (n3, e3) :: (n4, e4) :: m, hs, hl =>
    exfalso
    have r1 := hl (n1, e1) (by simp)
    have r2 := hl (n2, e2) (by simp)
    have r3 := hl (n3, e3) (by simp)
    have r4 := hl (n4, e4) (by simp)
    have d1 := r1.den
    have d2 := r2.den
    have d3 := r3.den
    have d4 := r4.den
    have z1 := r1.zero
    have z2 := r2.zero
    have z3 := r3.zero
    have z4 := r4.zero
    simp only [List.pairwise_cons] at hs
    have l1 : n1 * e2 < n2 * e1 := hs.1 (n2, e2) (by simp)
    have l2 : n2 * e3 < n3 * e2 := hs.2.1 (n3, e3) (by simp)
    have l3 : n3 * e4 < n4 * e3 := hs.2.2.1 (n4, e4) (by simp)
    dsimp only at d1 d2 d3 d4 z1 z2 z3 z4
    have b1 := big_zero (m := e2 * e3 * e4) z1
    have b2 := big_zero (m := e1 * e3 * e4) z2
    have b3 := big_zero (m := e1 * e2 * e4) z3
    have b4 := big_zero (m := e1 * e2 * e3) z4
    rw [show e2 * (e1 * e3 * e4) = e1 * (e2 * e3 * e4) by grind] at b2
    rw [show e3 * (e1 * e2 * e4) = e1 * (e2 * e3 * e4) by grind] at b3
    rw [show e4 * (e1 * e2 * e3) = e1 * (e2 * e3 * e4) by grind] at b4
    refine four_zeros ha ?_ ?_ ?_ b1 b2 b3 b4
    · have := Int.mul_lt_mul_of_pos_right l1 (Int.mul_pos (show 0 < e3 by omega) (show 0 < e4 by omega))
      have q1 : n1 * e2 * (e3 * e4) = n1 * (e2 * e3 * e4) := by grind
      have q2 : n2 * e1 * (e3 * e4) = n2 * (e1 * e3 * e4) := by grind
      omega
    · have := Int.mul_lt_mul_of_pos_right l2 (Int.mul_pos (show 0 < e1 by omega) (show 0 < e4 by omega))
      have q1 : n2 * e3 * (e1 * e4) = n2 * (e1 * e3 * e4) := by grind
      have q2 : n3 * e2 * (e1 * e4) = n3 * (e1 * e2 * e4) := by grind
      omega
    · have := Int.mul_lt_mul_of_pos_right l3 (Int.mul_pos (show 0 < e1 by omega) (show 0 < e2 by omega))
      have q1 : n3 * e4 * (e1 * e2) = n3 * (e1 * e2 * e4) := by grind
      have q2 : n4 * e3 * (e1 * e2) = n4 * (e1 * e2 * e3) := by grind
      omega
end Go.Proofs.Ytldonmcbnhgbdaa
