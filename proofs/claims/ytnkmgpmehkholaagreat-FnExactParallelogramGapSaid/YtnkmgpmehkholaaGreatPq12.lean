/- Lemmas and contracts of functions. No condition. -/
import Derived.Test.YtnkmgpmehkholaaGreatPq3
import Derived.Test.YtnkmgpmehkholaaGreatPq7
namespace Go.Proofs.YtnkmgpmehkholaaGreat
section
open Go.RowKit
set_option linter.unusedVariables false
set_option linter.unusedSimpArgs false

/-! ### lengths -/
def ln (z : Int) : Nat := (limbs (ab z)).length
theorem ln_le {z : Int} {k : Nat} : ln z ≤ k ↔ ab z < 10000 ^ k := limbs_len
theorem ab_lt (z : Int) : ab z < 10000 ^ ln z := ln_le.1 (Nat.le_refl _)
theorem ab_mul (a b : Int) : ab (a * b) = ab a * ab b := by unfold ab; rw [Int.natAbs_mul]; push_cast; rfl
theorem ab_add (a b : Int) : ab (a + b) ≤ ab a + ab b := by unfold ab; omega
theorem ab_neg (a : Int) : ab (-a) = ab a := by unfold ab; omega
theorem ln_neg (a : Int) : ln (-a) = ln a := by unfold ln; rw [ab_neg]
theorem ln_ab (a : Int) : ln (ab a) = ln a := by unfold ln; rw [ab_pos (ab_nonneg a)]
theorem ln_mul (a b : Int) : ln (a * b) ≤ ln a + ln b := by
  rw [ln_le, ab_mul, Int.pow_add]
  exact Int.mul_lt_mul' (Int.le_of_lt (ab_lt a)) (ab_lt b) (ab_nonneg b) (p4_pos _)
theorem ln_mul_le {a b : Int} {i k : Nat} (ha : ln a ≤ i) (hb : ln b ≤ k) : ln (a * b) ≤ i + k := Nat.le_trans (ln_mul a b) (by omega)
theorem ln_add_le {a b : Int} {k : Nat} (ha : ln a ≤ k) (hb : ln b ≤ k) : ln (a + b) ≤ k + 1 := by
  rw [ln_le] at *
  have := ab_add a b
  have h := p4_pos k
  rw [Int.pow_succ]
  omega
theorem ln_mono {a b : Int} (h : ab a ≤ ab b) : ln a ≤ ln b := ln_le.2 (Int.lt_of_le_of_lt h (ab_lt b))
theorem ln_small {a : Int} (h1 : -9223372036854775808 ≤ a) (h2 : a ≤ 9223372036854775808) : ln a ≤ 5 := by
  rw [ln_le]; unfold ab
  have : (10000 : Int) ^ 5 = 100000000000000000000 := by decide
  omega
theorem ln_zero {a : Int} : ln a = 0 ↔ a = 0 := by
  unfold ln
  rw [List.length_eq_zero_iff, limbs_nil]
  unfold ab; omega

/-! ### the sums of the doubling -/
def topZ (A B x z : Int) : Int := x * x * (x * x) - x * x * (z * z) * (2 * A) - x * z * (z * z) * (8 * B) + z * z * (z * z) * (A * A)
def botZ (A B x z : Int) : Int := z * (x * x * x + x * (z * z) * A + z * (z * z) * B) * 4
theorem top_impl (A B x z : Int) : 0 + 1 * x * x * x * x + 1 * (-2 * A) * x * x * z * z + 1 * (-8 * B) * x * z * z * z + 1 * (A * A) * z * z * z * z = topZ A B x z := by unfold topZ; grind
theorem bot_impl (A B x z : Int) : 1 * 4 * z * (0 + 1 * x * x * x + 1 * A * x * z * z + 1 * B * z * z * z) = botZ A B x z := by unfold botZ; grind

/-! ### the divisor -/
def dvZ (n t b : Int) : Int := gcdI (gcdI n t) b
theorem gcdI_emod (n a : Int) (hn : 0 < n) : gcdI n (a % n) = gcdI n a := by
  unfold gcdI
  rw [Int.gcd_comm n (a % n), Int.emod_def]
  congr 1
  rw [Int.gcd_comm]
  have : a - n * (a / n) = a + n * (-(a / n)) := by rw [Int.mul_neg]; omega
  rw [this]
  simp
theorem gcdI_neg (n a : Int) : gcdI n (-a) = gcdI n a := by unfold gcdI; rw [Int.gcd_neg]
theorem gcdI_ab (n a : Int) : gcdI n (ab a) = gcdI n a := by unfold gcdI ab; simp [Int.gcd]
theorem dv_spec {n t b : Int} (hn : 0 < n) : gcdI (gcdI n (t % n)) (b % n) = dvZ n t b := by
  unfold dvZ
  rw [gcdI_emod n t hn]
  have h : (gcdI n t) ∣ n := by unfold gcdI; exact Int.gcd_dvd_left ..
  have hp : 0 < gcdI n t := by
    rcases Int.lt_or_le 0 (gcdI n t) with h' | h'
    · exact h'
    · have := gcdI_nonneg n t
      have e : gcdI n t = 0 := by omega
      rw [e] at h
      have := Int.zero_dvd.1 h
      omega
  rw [← gcdI_emod _ (b % n) hp, Int.emod_emod_of_dvd b h, gcdI_emod _ b hp]
theorem dv_impl {n t b : Int} (hn : 0 < n) : gcdI (ab b % gcdI (ab t % n) n) (gcdI (ab t % n) n) = dvZ n t b := by
  unfold dvZ
  rw [gcdI_comm (ab t % n) n, gcdI_emod _ _ hn, gcdI_ab]
  have hp : 0 < gcdI n t := by
    rcases Int.lt_or_le 0 (gcdI n t) with h' | h'
    · exact h'
    · have := gcdI_nonneg n t
      have e : gcdI n t = 0 := by omega
      have h : (gcdI n t) ∣ n := by unfold gcdI; exact Int.gcd_dvd_left ..
      rw [e] at h
      have := Int.zero_dvd.1 h
      omega
  rw [gcdI_comm, gcdI_emod _ _ hp, gcdI_ab]
theorem dv_pos {n t b : Int} (hn : 0 < n) : 1 ≤ dvZ n t b := by
  have h : dvZ n t b ∣ n := by
    unfold dvZ
    exact Int.dvd_trans (by unfold gcdI; exact Int.gcd_dvd_left ..) (show gcdI n t ∣ n by unfold gcdI; exact Int.gcd_dvd_left ..)
  have h0 : 0 ≤ dvZ n t b := gcdI_nonneg _ _
  rcases Int.lt_or_le 0 (dvZ n t b) with h' | h'
  · omega
  · have e : dvZ n t b = 0 := by omega
    rw [e] at h
    have := Int.zero_dvd.1 h
    omega
theorem dv_le {n t b : Int} (hn : 0 < n) : dvZ n t b ≤ n := by
  have h : dvZ n t b ∣ n := by
    unfold dvZ
    exact Int.dvd_trans (by unfold gcdI; exact Int.gcd_dvd_left ..) (show gcdI n t ∣ n by unfold gcdI; exact Int.gcd_dvd_left ..)
  exact Int.le_of_dvd hn h
theorem dv_top (n t b : Int) : dvZ n t b ∣ t := by
  unfold dvZ
  exact Int.dvd_trans (by unfold gcdI; exact Int.gcd_dvd_left ..) (show gcdI n t ∣ t by unfold gcdI; exact Int.gcd_dvd_right ..)
theorem dv_bot (n t b : Int) : dvZ n t b ∣ b := by unfold dvZ gcdI; exact Int.gcd_dvd_right ..
theorem dv_neg (n t b : Int) : dvZ n (-t) (-b) = dvZ n t b := by unfold dvZ; rw [gcdI_neg, gcdI_neg]
theorem neg_div {d t : Int} (h : d ∣ t) : -t / d = -(t / d) := by rw [Int.neg_ediv_of_dvd h]
theorem ln_div {a d : Int} (hd : 1 ≤ d) (h : d ∣ a) : ln (a / d) ≤ ln a := by
  apply ln_mono
  obtain ⟨q, rfl⟩ := h
  rw [Int.mul_ediv_cancel_left _ (by omega), ab_mul]
  have h1 := ab_nonneg q
  have h2 : 1 ≤ ab d := by unfold ab; omega
  have := Int.mul_le_mul h2 (Int.le_refl (ab q)) h1 (by omega)
  omega

/-! ### doubled ratios -/
def raB (x z : Int) : Bool := decide (ln x ≤ 80) && (decide (ln z ≤ 80) && decide (0 < z))
theorem raB_bd {x z : Int} (h : raB x z = true) : ln x ≤ 80 ∧ ln z ≤ 80 ∧ 0 < z := by
  simp only [raB, Bool.and_eq_true, decide_eq_true_eq] at h; exact ⟨h.1, h.2.1, h.2.2⟩
def sgZ (b t : Int) : Int := if b < 0 then -t else t
def dbN (n t b : Int) : Int := sgZ b (t / dvZ n t b)
def dbD (n t b : Int) : Int := sgZ b (b / dvZ n t b)
theorem db_spec (n t b : Int) : sgZ b t / dvZ n (sgZ b t) (sgZ b b) = dbN n t b ∧ sgZ b b / dvZ n (sgZ b t) (sgZ b b) = dbD n t b := by
  unfold dbN dbD sgZ
  by_cases h : b < 0
  · simp only [if_pos h]
    rw [dv_neg, neg_div (dv_top ..), neg_div (dv_bot ..)]
    exact ⟨rfl, rfl⟩
  · simp only [if_neg h]
    exact ⟨trivial, trivial⟩
/-- what has become of a point that was doubled some times -/
inductive RSt where
  | inf
  | bad
  | at (x z : Int)
def stp (n A B : Int) : RSt → RSt
  | .inf => .inf
  | .bad => .bad
  | .at x z => if botZ A B x z = 0 then .inf else if raB (dbN n (topZ A B x z) (botZ A B x z)) (dbD n (topZ A B x z) (botZ A B x z)) = true then .at (dbN n (topZ A B x z) (botZ A B x z)) (dbD n (topZ A B x z) (botZ A B x z)) else .bad
def dbl (n A B x z : Int) : Int × Int × Bool :=
  if botZ A B x z = 0 then (0, 0, false) else if raB (dbN n (topZ A B x z) (botZ A B x z)) (dbD n (topZ A B x z) (botZ A B x z)) = true then (dbN n (topZ A B x z) (botZ A B x z), dbD n (topZ A B x z) (botZ A B x z), true) else (0, 0, false)
def run (n A B x z : Int) : Nat → RSt
  | 0 => .at x z
  | k + 1 => stp n A B (run n A B x z k)
def okS : RSt → Bool
  | .at x z => raB x z
  | _ => true
theorem run_ok {n A B x z : Int} (h : raB x z = true) : ∀ k, okS (run n A B x z k) = true
  | 0 => h
  | k + 1 => by
    have := run_ok (n := n) (A := A) (B := B) h k
    simp only [run]
    cases hr : run n A B x z k with
    | inf => rfl
    | bad => rfl
    | «at» u v =>
      simp only [stp]
      split
      · rfl
      · split
        · next h2 => exact h2
        · rfl
theorem run_inf {n A B x z : Int} {j : Nat} (h : run n A B x z j = .inf) : ∀ k, j ≤ k → run n A B x z k = .inf := fun k hk => by
  obtain ⟨d, rfl⟩ : ∃ d, k = j + d := ⟨k - j, by omega⟩
  induction d with
  | zero => exact h
  | succ d ih => rw [← Nat.add_assoc]; simp only [run]; rw [ih (by omega)]; rfl
theorem run_bad {n A B x z : Int} {j : Nat} (h : run n A B x z j = .bad) : ∀ k, j ≤ k → run n A B x z k = .bad := fun k hk => by
  obtain ⟨d, rfl⟩ : ∃ d, k = j + d := ⟨k - j, by omega⟩
  induction d with
  | zero => exact h
  | succ d ih => rw [← Nat.add_assoc]; simp only [run]; rw [ih (by omega)]; rfl
end
section
open Go.RowKit
set_option linter.unusedVariables false
set_option linter.unusedSimpArgs false
def gwB (b : Bool) (zs : List Int) : Bool := decide (zs.length ≤ 400) && ((zs.all fun z => inB z 0 9999) && ((decide (0 < zs.length) || !b) && (decide (zs.length = 0) || decide (0 < zs.getD (zs.length - 1) 0))))
theorem gwB_cases {b : Bool} {zs : List Int} {n : Nat} (hn : zs.length = n) : (¬ n ≤ 400 ∧ gwB b zs = false) ∨ (n ≤ 400 ∧ ((zs.all fun z => inB z 0 9999) = false ∧ gwB b zs = false ∨ (zs.all fun z => inB z 0 9999) = true ∧
    (n = 0 ∧ (b = true ∧ gwB b zs = false ∨ b = false ∧ gwB b zs = true) ∨ 0 < n ∧ (¬ 0 < zs.getD (n - 1) 0 ∧ gwB b zs = false ∨ 0 < zs.getD (n - 1) 0 ∧ gwB b zs = true)))) := by
  unfold gwB
  rw [hn]
  by_cases h1 : n ≤ 400
  · right
    refine ⟨h1, ?_⟩
    cases h2 : (zs.all fun z => inB z 0 9999)
    · simp
    · right
      refine ⟨rfl, ?_⟩
      by_cases h0 : n = 0
      · left
        subst h0
        cases b <;> simp
      · right
        refine ⟨by omega, ?_⟩
        by_cases h3 : 0 < zs.getD (n - 1) 0
        · right; simp only [h1, decide_true, Bool.true_and]; refine ⟨h3, ?_⟩
          rw [show decide (0 < n) = true by simp; omega, show decide (n = 0) = false by simp; omega, show decide (0 < zs.getD (n - 1) 0) = true by simpa using h3]; rfl
        · left; refine ⟨h3, ?_⟩
          rw [show decide (0 < n) = true by simp; omega, show decide (n = 0) = false by simp; omega, show decide (0 < zs.getD (n - 1) 0) = false by simpa using h3]; simp
  · left
    exact ⟨h1, by simp [h1]⟩
theorem dig_all {zs : List Int} : (zs.all fun z => inB z 0 9999) = true ↔ Dig zs := by
  rw [List.all_eq_true]
  constructor
  · intro h z hz; exact inB_iff.1 (h z hz)
  · intro h z hz; exact inB_iff.2 (h z hz)
theorem can_iff {zs : List Int} (h : 0 < zs.length) (hd : Dig zs) : 0 < zs.getD (zs.length - 1) 0 ↔ Can zs := by
  have hne : zs ≠ [] := by intro e; subst e; simp at h
  have e : zs.getD (zs.length - 1) 0 = zs.getLast hne := by rw [gD_lt (by omega), List.getLast_eq_getElem]
  have hb := hd.getD (zs.length - 1)
  rw [e] at hb ⊢
  constructor
  · intro h1 _; omega
  · intro h1; have := h1 hne; omega
/-- the digits of a whole number -/
theorem gw_self (z : Int) : gwB (ngB z) (limbs (ab z)) = decide (ln z ≤ 400) := by
  have hd := limbs_dig (ab z)
  have hc := limbs_can (ab z)
  unfold gwB
  rw [dig_all.2 hd]
  rcases Nat.eq_zero_or_pos (limbs (ab z)).length with h | h
  · have h0 := ln_zero.1 h
    subst h0
    simp [ln, ngB, h]
  · have h3 := (can_iff h hd).2 hc
    rw [show decide (0 < (limbs (ab z)).length) = true by simpa using h, show decide (0 < (limbs (ab z)).getD ((limbs (ab z)).length - 1) 0) = true by simpa using h3]
    simp [ln]
    try rfl
end
end Go.Proofs.YtnkmgpmehkholaaGreat
