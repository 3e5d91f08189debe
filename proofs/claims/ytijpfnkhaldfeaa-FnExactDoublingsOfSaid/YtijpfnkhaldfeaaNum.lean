/- Contracts of the small functions on integers and fractions: ranges, least, most, gcd, floors, lowest terms. -/
import Derived.Test.YtijpfnkhaldfeaaProg
import Derived.Test.YtijpfnkhaldfeaaBase
namespace Go.Proofs.Ytijpfnkhaldfeaa
open Go.RowKit
set_option linter.unusedVariables false
set_option maxHeartbeats 4000000
set_option linter.unusedSimpArgs false

/-! ### Plain words -/
def inB (n lo hi : Int) : Bool := decide (lo ≤ n) && decide (n ≤ hi)
theorem inB_true {n lo hi : Int} (h1 : lo ≤ n) (h2 : n ≤ hi) : inB n lo hi = true := by simp [inB, h1, h2]
theorem inB_iff {n lo hi : Int} : inB n lo hi = true ↔ lo ≤ n ∧ n ≤ hi := by simp [inB]
theorem inB_false {n lo hi : Int} : inB n lo hi = false ↔ ¬ (lo ≤ n ∧ n ≤ hi) := by
  rw [← inB_iff]; simp
def least (a b : Int) : Int := if a < b then a else b
def most (a b : Int) : Int := if b < a then a else b
theorem least_eq (a b : Int) : least a b = min a b := by unfold least; omega
theorem most_eq (a b : Int) : most a b = max a b := by unfold most; omega
def absI (a : Int) : Int := (a.natAbs : Int)
theorem absI_nonneg (a : Int) : 0 ≤ absI a := by unfold absI; omega
theorem absI_le {a b : Int} (h1 : -b ≤ a) (h2 : a ≤ b) : absI a ≤ b := by unfold absI; omega
def gcdI (a b : Int) : Int := (Int.gcd a b : Int)
theorem gcdI_abs (a b : Int) : gcdI (absI a) b = gcdI a b := by simp [gcdI, absI, Int.gcd]
theorem gcdI_abs2 (a b : Int) : gcdI a (absI b) = gcdI a b := by simp [gcdI, absI, Int.gcd]
theorem gcdI_comm (a b : Int) : gcdI a b = gcdI b a := by simp [gcdI, Int.gcd_comm]
theorem gcdI_nonneg (a b : Int) : 0 ≤ gcdI a b := by unfold gcdI; omega
theorem gcdI_pos {a b : Int} (h : b ≠ 0) : 1 ≤ gcdI a b := by
  have : 0 < Int.gcd a b := Int.gcd_pos_of_ne_zero_right a h
  unfold gcdI; omega
theorem gcdI_le {a b : Int} (h : b ≠ 0) : gcdI a b ≤ absI b := by
  have h2 := Int.gcd_dvd_right a b
  have h3 : (Int.gcd a b : Int) ∣ (b.natAbs : Int) := by exact Int.dvd_natAbs.2 h2
  have := Int.le_of_dvd (by omega) h3
  exact this
theorem gcd_step (a b : Int) : Int.gcd b (a.tmod b) = Int.gcd a b := by
  rw [Int.gcd_comm a b]
  have : a.tmod b = a - b * (a.tdiv b) := by
    have := Int.mul_tdiv_add_tmod a b; omega
  rw [this]
  simp [Int.sub_eq_add_neg, ← Int.mul_neg]
theorem tmod_bd (a b : Int) (hb : b ≠ 0) : (a.tmod b).natAbs < b.natAbs := by
  rw [Int.natAbs_tmod]
  exact Nat.mod_lt _ (by omega)
theorem tdiv_bd (a b : Int) : (a.tdiv b).natAbs ≤ a.natAbs := by
  rw [Int.natAbs_tdiv]; exact Nat.div_le_self _ _
theorem mul_bd {a b A B : Int} (ha : -A ≤ a ∧ a ≤ A) (hb : -B ≤ b ∧ b ≤ B) : -(A * B) ≤ a * b ∧ a * b ≤ A * B := by
  have h : (a * b).natAbs ≤ (A * B).natAbs := by
    rw [Int.natAbs_mul, Int.natAbs_mul]
    exact Nat.mul_le_mul (by omega) (by omega)
  have hA : 0 ≤ A * B := Int.mul_nonneg (by omega) (by omega)
  omega

/-- num / den in lowest terms, whether that is a fraction or not -/
def frB (n d : Int) : Bool := inB d 1 1000000000 && inB n (-1000000000) 1000000000 && (gcdI n d == 1)
theorem frB_bd {n d : Int} (h : frB n d = true) : 1 ≤ d ∧ d ≤ 1000000000 ∧ -1000000000 ≤ n ∧ n ≤ 1000000000 := by
  simp [frB, inB] at h; omega
def mkN (n d : Int) : Int := if d < 0 then -(n.tdiv (gcdI n d)) else n.tdiv (gcdI n d)
def mkD (n d : Int) : Int := if d < 0 then -(d.tdiv (gcdI n d)) else d.tdiv (gcdI n d)
def mkF (n d : Int) : Int × Int × Bool := if frB (mkN n d) (mkD n d) = true then (mkN n d, mkD n d, true) else (0, 0, false)
theorem mkF_yes {n d a b : Int} (ha : mkN n d = a) (hb : mkD n d = b) (h : frB a b = true) : mkF n d = (a, b, true) := by simp [mkF, ha, hb, h]
theorem mkF_no {n d a b : Int} (ha : mkN n d = a) (hb : mkD n d = b) (h : ¬ frB a b = true) : mkF n d = (0, 0, false) := by simp [mkF, ha, hb, h]
/-- rounded down, for a positive divisor -/
def down (a b : Int) : Int := a / b
def up (a b : Int) : Int := -(down (-a) b)
theorem down_of (a b : Int) (hb : 0 < b) : (if a.tmod b < 0 then a.tdiv b - 1 else a.tdiv b) = a / b := by
  rw [Int.tmod_eq_emod, Int.tdiv_eq_ediv]
  have h1 := Int.emod_nonneg a (b := b) (by omega)
  have h2 := Int.emod_lt_of_pos a hb
  have h3 : b.sign = 1 := Int.sign_eq_one_of_pos hb
  have h4 : (b.natAbs : Int) = b := by omega
  have h5 := Int.dvd_iff_emod_eq_zero (a := b) (b := a)
  by_cases h : 0 ≤ a ∨ b ∣ a
  · simp only [h, if_true]
    omega
  · simp only [h, if_false, h3, h4]
    omega
theorem down_bd (a b : Int) (hb : 0 < b) : -(a.natAbs : Int) ≤ a / b ∧ a / b ≤ (a.natAbs : Int) := by
  rcases Int.lt_or_le a 0 with h | h
  rotate_left
  · have h1 := Int.ediv_nonneg h (by omega : 0 ≤ b)
    have h2 := Int.ediv_le_self b h
    omega
  · have h1 := Int.ediv_neg_of_neg_of_pos h hb
    have h2 : a ≤ a / b := by
      have := Int.ediv_le_ediv (c := b) hb (a := a * b) (b := a) (by
        have : a * b ≤ a * 1 := Int.mul_le_mul_of_nonpos_left (by omega) (by omega)
        omega)
      rwa [Int.mul_ediv_cancel _ (by omega)] at this
    omega

theorem down_in {a b M : Int} (hb : 0 < b) (h : -M ≤ a ∧ a ≤ M) : -M ≤ down a b ∧ down a b ≤ M := by
  have := down_bd a b hb
  unfold down; omega

/-! ### Contracts -/
theorem l1In_any (n lo hi : Int) (w : World) : Calls Try.prog 16 #[.int .i64 n, .int .i64 lo, .int .i64 hi] w fun e w' => e = .returned (.bool (inB n lo hi)) ∧ w = w' := by
  by_cases h : lo ≤ n
  · go_enter Try.func16, Try.ntmps16
    go_wp2
    go_ret
    simp [inB, h]
  · go_enter Try.func16, Try.ntmps16
    go_wp2
    go_ret
    simp [inB]; omega
theorem inside_any (n lo hi : Int) (w : World) : Calls Try.prog 21 #[.int .i64 n, .int .i64 lo, .int .i64 hi] w fun e w' => e = .returned (.bool (inB n lo hi)) ∧ w = w' := by
  by_cases h : lo ≤ n
  · go_enter Try.func21, Try.ntmps21
    go_wp2
    go_ret
    simp [inB, h]
  · go_enter Try.func21, Try.ntmps21
    go_wp2
    go_ret
    simp [inB]; omega
theorem l1Most_any (a b : Int) (w : World) : Calls Try.prog 60 #[.int .i64 a, .int .i64 b] w fun e w' => e = .returned (.int .i64 (most a b)) ∧ w = w' := by
  go_enter Try.func60, Try.ntmps60
  go_wp2
  all_goals
    go_ret
    exact ⟨ret_int (by unfold most; split <;> omega), rfl⟩
theorem l1Abs_any (a : Int) (w : World) (h1 : -9223372036854775807 ≤ a) (h2 : a ≤ 9223372036854775807) : Calls Try.prog 48 #[.int .i64 a] w fun e w' => e = .returned (.int .i64 (absI a)) ∧ w = w' := by
  go_enter Try.func48, Try.ntmps48
  go_wp2_with (first | (go_at_call 60; refine (l1Most_any _ _ _).mono ?_; rintro e w' ⟨rfl, rfl⟩))
  go_ret
  exact ⟨ret_int (by unfold most absI; split <;> omega), rfl⟩
def GcdRel (a0 b0 : Int) (w : World) (x y : Value) (wr : World) : Prop := ∃ a b : Int, ∃ n : Nat, x = .int .i64 a ∧ y = .int .i64 b ∧ wr = w.drewN n ∧ Int.gcd a b = Int.gcd a0 b0 ∧ -9223372036854775807 ≤ a ∧ a ≤ 9223372036854775807 ∧ -9223372036854775807 ≤ b ∧ b ≤ 9223372036854775807
theorem gcd_any (a b : Int) (w : World) (ha : -9223372036854775807 ≤ a) (ha' : a ≤ 9223372036854775807) (hb : -9223372036854775807 ≤ b) (hb' : b ≤ 9223372036854775807) :
    Calls Try.prog 70 #[.int .i64 a, .int .i64 b] w fun e w' => e = .returned (.int .i64 (gcdI a b)) ∧ ∃ n, w' = w.drewN n := by
  go_enter Try.func70, Try.ntmps70
  go_wp2
  go_loopw [0, 1] (fun x y wr => GcdRel a b w x y wr) (fun _ y _ => (intOf y).natAbs)
  case atStart => exact ⟨a, b, 0, rfl, rfl, rfl, rfl, ha, ha', hb, hb'⟩
  case round =>
    obtain ⟨x, y, n, rfl, rfl, rfl, hg, h1, h2, h3, h4⟩ := hrel
    clear ha ha' hb hb'
    by_cases hy : y = 0
    · have hy' : (y != 0) = false := by simp [hy]
      go_wp2
      all_goals
        go_ret
        subst hy
        exact ⟨ret_int (by unfold gcdI; rw [← hg, Int.gcd_zero_right]; omega), n, rfl⟩
    · have hy' : (y != 0) = true := by simp [hy]
      go_wp2
      go_region
      go_wp2
      have hb := tmod_bd x y hy
      have hg' := gcd_step x y
      go_roundw
      case rel => exact ⟨y, x.tmod y, n+1, rfl, rfl, rfl, by rw [hg', hg], h3, h4, by omega, by omega⟩
      case measure => simpa [intOf] using hb
theorem common_any (a b : Int) (w : World) (ha : 0 ≤ a) (ha' : a ≤ 9223372036854775807) (hb : 0 ≤ b) (hb' : b ≤ 9223372036854775807) :
    Calls Try.prog 49 #[.int .i64 a, .int .i64 b] w fun e w' => e = .returned (.int .i64 (gcdI a b)) ∧ w = w' := by
  go_enter Try.func49, Try.ntmps49
  go_wp2
  go_loop [0, 1] (fun x y => GcdRel a b w x y w ∧ 0 ≤ intOf x ∧ 0 ≤ intOf y) (fun _ y => (intOf y).natAbs)
  case atStart => exact ⟨⟨a, b, 0, rfl, rfl, rfl, rfl, by omega, ha', by omega, hb'⟩, ha, hb⟩
  case round =>
    obtain ⟨⟨x, y, n, rfl, rfl, hw, hg, h1, h2, h3, h4⟩, h5, h6⟩ := hrel
    clear ha ha' hb hb' hw
    simp only [intOf] at h5 h6
    by_cases hy : 0 < y
    · go_wp2
      have hb := tmod_bd x y (by omega)
      have hg' := gcd_step x y
      have hz := Int.emod_nonneg x (b := y) (by omega)
      have he : x % y = x.tmod y := (Int.tmod_eq_emod_of_nonneg h5).symm
      go_round
      case rel => exact ⟨⟨y, x % y, 0, rfl, rfl, rfl, by rw [he, hg', hg], by omega, h4, by omega, by omega⟩, by simp [intOf]; omega, by simp [intOf]; omega⟩
      case measure => simp [intOf]; omega
    · go_wp2
      go_ret
      have hy0 : y = 0 := by omega
      subst hy0
      exact ⟨ret_int (by unfold gcdI; rw [← hg, Int.gcd_zero_right]; omega), rfl⟩
end Go.Proofs.Ytijpfnkhaldfeaa
