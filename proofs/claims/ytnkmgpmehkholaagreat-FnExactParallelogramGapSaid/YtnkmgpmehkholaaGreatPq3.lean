/- Lemmas and contracts of functions. No condition. -/
import Derived.Test.YtnkmgpmehkholaaGreatPq2
import Derived.Test.YtnkmgpmehkholaaGreatProg
namespace Go.Proofs.YtnkmgpmehkholaaGreat
section
open Go.RowKit
set_option linter.unusedVariables false
set_option maxHeartbeats 4000000
set_option linter.unusedSimpArgs false

/-! ### Plain words -/
def inB (n lo hi : Int) : Bool := decide (lo ≤ n) && decide (n ≤ hi)
theorem inB_iff {n lo hi : Int} : inB n lo hi = true ↔ lo ≤ n ∧ n ≤ hi := by simp [inB]
theorem inB_false {n lo hi : Int} : inB n lo hi = false ↔ ¬ (lo ≤ n ∧ n ≤ hi) := by
 rw [← inB_iff]; simp
def least (a b : Int) : Int := if a < b then a else b
def most (a b : Int) : Int := if b < a then a else b
theorem least_eq (a b : Int) : least a b = min a b := by unfold least; omega
theorem most_eq (a b : Int) : most a b = max a b := by unfold most; omega
def absI (a : Int) : Int := (a.natAbs : Int)
theorem absI_nonneg (a : Int) : 0 ≤ absI a := by unfold absI; omega
theorem absI_le {a b : Int} (h1 : -b ≤ a) (h2 : a ≤ b) : absI a ≤ b := by unfold absI; omega
def gcdI (a b : Int) : Int := (Int.gcd a b : Int)
theorem gcdI_abs (a b : Int) : gcdI (absI a) b = gcdI a b := by simp [gcdI, absI, Int.gcd]
theorem gcdI_abs2 (a b : Int) : gcdI a (absI b) = gcdI a b := by simp [gcdI, absI, Int.gcd]
theorem gcdI_comm (a b : Int) : gcdI a b = gcdI b a := by simp [gcdI, Int.gcd_comm]
theorem gcdI_nonneg (a b : Int) : 0 ≤ gcdI a b := by unfold gcdI; omega
theorem gcdI_pos {a b : Int} (h : b ≠ 0) : 1 ≤ gcdI a b := by
 have : 0 < Int.gcd a b := Int.gcd_pos_of_ne_zero_right a h
 unfold gcdI; omega
theorem gcdI_le {a b : Int} (h : b ≠ 0) : gcdI a b ≤ absI b := by
 have h2 := Int.gcd_dvd_right a b
 have h3 : (Int.gcd a b : Int) ∣ (b.natAbs : Int) := by exact Int.dvd_natAbs.2 h2
 have := Int.le_of_dvd (by omega) h3
 exact this
theorem gcd_step (a b : Int) : Int.gcd b (a.tmod b) = Int.gcd a b := by
 rw [Int.gcd_comm a b]
 have : a.tmod b = a - b * (a.tdiv b) := by
  have := Int.mul_tdiv_add_tmod a b; omega
 rw [this]
 simp [Int.sub_eq_add_neg, ← Int.mul_neg]
theorem tmod_bd (a b : Int) (hb : b ≠ 0) : (a.tmod b).natAbs < b.natAbs := by
 rw [Int.natAbs_tmod]
 exact Nat.mod_lt _ (by omega)
theorem tdiv_bd (a b : Int) : (a.tdiv b).natAbs ≤ a.natAbs := by
 rw [Int.natAbs_tdiv]; exact Nat.div_le_self _ _
theorem mul_bd {a b A B : Int} (ha : -A ≤ a ∧ a ≤ A) (hb : -B ≤ b ∧ b ≤ B) : -(A * B) ≤ a * b ∧ a * b ≤ A * B := by
 have h : (a * b).natAbs ≤ (A * B).natAbs := by
  rw [Int.natAbs_mul, Int.natAbs_mul]
  exact Nat.mul_le_mul (by omega) (by omega)
 have hA : 0 ≤ A * B := Int.mul_nonneg (by omega) (by omega)
 omega

/-- num / den in lowest terms, whether that is a fraction or not -/
def frB (n d : Int) : Bool := inB d 1 1000000000 && inB n (-1000000000) 1000000000 && (gcdI n d == 1)
theorem frB_bd {n d : Int} (h : frB n d = true) : 1 ≤ d ∧ d ≤ 1000000000 ∧ -1000000000 ≤ n ∧ n ≤ 1000000000 := by
 simp [frB, inB] at h; omega
def mkN (n d : Int) : Int := if d < 0 then -(n.tdiv (gcdI n d)) else n.tdiv (gcdI n d)
def mkD (n d : Int) : Int := if d < 0 then -(d.tdiv (gcdI n d)) else d.tdiv (gcdI n d)
def mkF (n d : Int) : Int × Int × Bool := if frB (mkN n d) (mkD n d) = true then (mkN n d, mkD n d, true) else (0, 0, false)
theorem mkF_yes {n d a b : Int} (ha : mkN n d = a) (hb : mkD n d = b) (h : frB a b = true) : mkF n d = (a, b, true) := by simp [mkF, ha, hb, h]
theorem mkF_no {n d a b : Int} (ha : mkN n d = a) (hb : mkD n d = b) (h : ¬ frB a b = true) : mkF n d = (0, 0, false) := by simp [mkF, ha, hb, h]
/-- rounded down, for a positive divisor -/
def down (a b : Int) : Int := a / b
def up (a b : Int) : Int := -(down (-a) b)
theorem down_of (a b : Int) (hb : 0 < b) : (if a.tmod b < 0 then a.tdiv b - 1 else a.tdiv b) = a / b := by
 rw [Int.tmod_eq_emod, Int.tdiv_eq_ediv]
 have h1 := Int.emod_nonneg a (b := b) (by omega)
 have h2 := Int.emod_lt_of_pos a hb
 have h3 : b.sign = 1 := Int.sign_eq_one_of_pos hb
 have h4 : (b.natAbs : Int) = b := by omega
 have h5 := Int.dvd_iff_emod_eq_zero (a := b) (b := a)
 by_cases h : 0 ≤ a ∨ b ∣ a
 ·simp only [h, if_true]
  omega
 ·simp only [h, if_false, h3, h4]
  omega
theorem down_bd (a b : Int) (hb : 0 < b) : -(a.natAbs : Int) ≤ a / b ∧ a / b ≤ (a.natAbs : Int) := by
 rcases Int.lt_or_le a 0 with h | h
 rotate_left
 ·have h1 := Int.ediv_nonneg h (by omega : 0 ≤ b)
  have h2 := Int.ediv_le_self b h
  omega
 ·have h1 := Int.ediv_neg_of_neg_of_pos h hb
  have h2 : a ≤ a / b := by
   have := Int.ediv_le_ediv (c := b) hb (a := a * b) (b := a) (by
    have : a * b ≤ a * 1 := Int.mul_le_mul_of_nonpos_left (by omega) (by omega)
    omega)
   rwa [Int.mul_ediv_cancel _ (by omega)] at this
  omega

theorem down_in {a b M : Int} (hb : 0 < b) (h : -M ≤ a ∧ a ≤ M) : -M ≤ down a b ∧ down a b ≤ M := by
 have := down_bd a b hb
 unfold down; omega

/-! ### Contracts -/
theorem l1In_any (n lo hi : Int) (w : World) : Calls Tryz.prog 47 #[.int .i64 n, .int .i64 lo, .int .i64 hi] w fun e w' => e = .returned (.bool (inB n lo hi)) ∧ w = w' := by
 by_cases h : lo ≤ n
 ·go_enter Tryz.func47, Tryz.ntmps47
  go_wp2
  go_ret
  simp [inB, h]
 ·go_enter Tryz.func47, Tryz.ntmps47
  go_wp2
  go_ret
  simp [inB]; omega
theorem inside_any (n lo hi : Int) (w : World) : Calls Tryz.prog 35 #[.int .i64 n, .int .i64 lo, .int .i64 hi] w fun e w' => e = .returned (.bool (inB n lo hi)) ∧ w = w' := by
 by_cases h : lo ≤ n
 ·go_enter Tryz.func35, Tryz.ntmps35
  go_wp2
  go_ret
  simp [inB, h]
 ·go_enter Tryz.func35, Tryz.ntmps35
  go_wp2
  go_ret
  simp [inB]; omega
theorem l1Least_any (a b : Int) (w : World) : Calls Tryz.prog 88 #[.int .i64 a, .int .i64 b] w fun e w' => e = .returned (.int .i64 (least a b)) ∧ w = w' := by
 go_enter Tryz.func88, Tryz.ntmps88
 go_wp2
 all_goals
  go_ret
  exact ⟨ret_int (by unfold least; split <;> omega), rfl⟩
theorem l1Most_any (a b : Int) (w : World) : Calls Tryz.prog 69 #[.int .i64 a, .int .i64 b] w fun e w' => e = .returned (.int .i64 (most a b)) ∧ w = w' := by
 go_enter Tryz.func69, Tryz.ntmps69
 go_wp2
 all_goals
  go_ret
  exact ⟨ret_int (by unfold most; split <;> omega), rfl⟩
theorem l1Abs_any (a : Int) (w : World) (h1 : -9223372036854775807 ≤ a) (h2 : a ≤ 9223372036854775807) : Calls Tryz.prog 44 #[.int .i64 a] w fun e w' => e = .returned (.int .i64 (absI a)) ∧ w = w' := by
 go_enter Tryz.func44, Tryz.ntmps44
 go_wp2_with (first | (go_at_call 69; refine (l1Most_any _ _ _).mono ?_; rintro e w' ⟨rfl, rfl⟩))
 go_ret
 exact ⟨ret_int (by unfold most absI; split <;> omega), rfl⟩
def GcdRel (a0 b0 : Int) (w : World) (x y : Value) (wr : World) : Prop := ∃ a b : Int, ∃ n : Nat, x = .int .i64 a ∧ y = .int .i64 b ∧ wr = w.drewN n ∧ Int.gcd a b = Int.gcd a0 b0 ∧ -9223372036854775807 ≤ a ∧ a ≤ 9223372036854775807 ∧ -9223372036854775807 ≤ b ∧ b ≤ 9223372036854775807
theorem gcd_any (a b : Int) (w : World) (ha : -9223372036854775807 ≤ a) (ha' : a ≤ 9223372036854775807) (hb : -9223372036854775807 ≤ b) (hb' : b ≤ 9223372036854775807) :
  Calls Tryz.prog 36 #[.int .i64 a, .int .i64 b] w fun e w' => e = .returned (.int .i64 (gcdI a b)) ∧ ∃ n, w' = w.drewN n := by
 go_enter Tryz.func36, Tryz.ntmps36
 go_wp2
 go_loopw [0, 1] (fun x y wr => GcdRel a b w x y wr) (fun _ y _ => (intOf y).natAbs)
 case atStart => exact ⟨a, b, 0, rfl, rfl, rfl, rfl, ha, ha', hb, hb'⟩
 case round =>
  obtain ⟨x, y, n, rfl, rfl, rfl, hg, h1, h2, h3, h4⟩ := hrel
  clear ha ha' hb hb'
  by_cases hy : y = 0
  ·have hy' : (y != 0) = false := by simp [hy]
   go_wp2
   all_goals
    go_ret
    subst hy
    exact ⟨ret_int (by unfold gcdI; rw [← hg, Int.gcd_zero_right]; omega), n, rfl⟩
  ·have hy' : (y != 0) = true := by simp [hy]
   go_wp2
   go_region
   go_wp2
   have hb := tmod_bd x y hy
   have hg' := gcd_step x y
   go_roundw
   case rel => exact ⟨y, x.tmod y, n+1, rfl, rfl, rfl, by rw [hg', hg], h3, h4, by omega, by omega⟩
   case measure => simpa [intOf] using hb
theorem common_any (a b : Int) (w : World) (ha : 0 ≤ a) (ha' : a ≤ 9223372036854775807) (hb : 0 ≤ b) (hb' : b ≤ 9223372036854775807) :
  Calls Tryz.prog 67 #[.int .i64 a, .int .i64 b] w fun e w' => e = .returned (.int .i64 (gcdI a b)) ∧ w = w' := by
 go_enter Tryz.func67, Tryz.ntmps67
 go_wp2
 go_loop [0, 1] (fun x y => GcdRel a b w x y w ∧ 0 ≤ intOf x ∧ 0 ≤ intOf y) (fun _ y => (intOf y).natAbs)
 case atStart => exact ⟨⟨a, b, 0, rfl, rfl, rfl, rfl, by omega, ha', by omega, hb'⟩, ha, hb⟩
 case round =>
  obtain ⟨⟨x, y, n, rfl, rfl, hw, hg, h1, h2, h3, h4⟩, h5, h6⟩ := hrel
  clear ha ha' hb hb' hw
  simp only [intOf] at h5 h6
  by_cases hy : 0 < y
  ·go_wp2
   have hb := tmod_bd x y (by omega)
   have hg' := gcd_step x y
   have hz := Int.emod_nonneg x (b := y) (by omega)
   have he : x % y = x.tmod y := (Int.tmod_eq_emod_of_nonneg h5).symm
   go_round
   case rel => exact ⟨⟨y, x % y, 0, rfl, rfl, rfl, by rw [he, hg', hg], by omega, h4, by omega, by omega⟩, by simp [intOf]; omega, by simp [intOf]; omega⟩
   case measure => simp [intOf]; omega
  ·go_wp2
   go_ret
   have hy0 : y = 0 := by omega
   subst hy0
   exact ⟨ret_int (by unfold gcdI; rw [← hg, Int.gcd_zero_right]; omega), rfl⟩
theorem isFraction_any (n d : Int) (w : World) : Calls Tryz.prog 42 #[.agg #[.int .i64 n, .int .i64 d]] w fun e w' => e = .returned (.bool (frB n d)) ∧ Below w.heap.size w w' := by
 by_cases h1 : inB d 1 1000000000 = true
 ·by_cases h2 : inB n (-1000000000) 1000000000 = true
  ·have h3 := inB_iff.1 h1
   have h4 := inB_iff.1 h2
   go_enter Tryz.func42, Tryz.ntmps42
   go_wp2_with (first | (go_at_call 35; refine (inside_any _ _ _ _).mono ?_; rintro e w' ⟨rfl, rfl⟩) | (go_at_call 36; refine (gcd_any _ _ _ (by omega) (by omega) (by omega) (by omega)).mono ?_; rintro e w' ⟨rfl, nq, rfl⟩))
   go_ret
   refine ⟨ret_bool (by simp [frB, h1, h2]), ?_⟩
   exact bel
  ·simp at h2
   go_enter Tryz.func42, Tryz.ntmps42
   go_wp2_with (first | (go_at_call 35; refine (inside_any _ _ _ _).mono ?_; rintro e w' ⟨rfl, rfl⟩) | (go_at_call 36; refine (gcd_any _ _ _ (by omega) (by omega) (by omega) (by omega)).mono ?_; rintro e w' ⟨rfl, nq, rfl⟩))
   go_ret
   refine ⟨ret_bool (by simp [frB, h2]), ?_⟩
   exact bel
 ·simp at h1
  go_enter Tryz.func42, Tryz.ntmps42
  go_wp2_with (first | (go_at_call 35; refine (inside_any _ _ _ _).mono ?_; rintro e w' ⟨rfl, rfl⟩) | (go_at_call 36; refine (gcd_any _ _ _ (by omega) (by omega) (by omega) (by omega)).mono ?_; rintro e w' ⟨rfl, nq, rfl⟩))
  go_ret
  refine ⟨ret_bool (by simp [frB, h1]), ?_⟩
  exact bel
theorem frGood_any (n d : Int) (w : World) : Calls Tryz.prog 68 #[.agg #[.int .i64 n, .int .i64 d]] w fun e w' => e = .returned (.bool (frB n d)) ∧ Below w.heap.size w w' := by
 by_cases h1 : inB d 1 1000000000 = true
 ·by_cases h2 : inB n (-1000000000) 1000000000 = true
  ·have h3 := inB_iff.1 h1
   have h4 := inB_iff.1 h2
   have h5 := absI_nonneg n
   have h6 : absI n ≤ 1000000000 := absI_le (by omega) (by omega)
   go_enter Tryz.func68, Tryz.ntmps68
   go_wp2
   go_quiet ((first | (go_at_call 47; exact Calls.quiet_of_same ((l1In_any _ _ _ _).mono fun _ _ ⟨a, b⟩ => ⟨a, b.symm⟩)) | (go_at_call 44; exact Calls.quiet_of_same ((l1Abs_any _ _ (by omega) (by omega)).mono fun _ _ ⟨a, b⟩ => ⟨a, b.symm⟩)) | (go_at_call 67; exact Calls.quiet_of_same ((common_any _ _ _ (by omega) (by omega) (by omega) (by omega)).mono fun _ _ ⟨a, b⟩ => ⟨a, b.symm⟩))))
   go_wp2
   go_ret
   refine ⟨ret_bool (by simp [frB, h1, h2, gcdI_abs]), ?_⟩
   exact bel
  ·simp at h2
   go_enter Tryz.func68, Tryz.ntmps68
   go_wp2
   go_quiet ((go_at_call 47; exact Calls.quiet_of_same ((l1In_any _ _ _ _).mono fun _ _ ⟨a, b⟩ => ⟨a, b.symm⟩)))
   go_wp2
   go_ret
   refine ⟨ret_bool (by simp [frB, h2]), ?_⟩
   exact bel
 ·simp at h1
  go_enter Tryz.func68, Tryz.ntmps68
  go_wp2
  go_quiet ((go_at_call 47; exact Calls.quiet_of_same ((l1In_any _ _ _ _).mono fun _ _ ⟨a, b⟩ => ⟨a, b.symm⟩)))
  go_wp2
  go_ret
  refine ⟨ret_bool (by simp [frB, h1]), ?_⟩
  exact bel
end
section
open Go.RowKit
set_option linter.unusedVariables false
set_option linter.unusedSimpArgs false

def pre1 (n d : Int) : Bool := frB n d && (4096 % d == 0)
def plN (n d : Int) : Int := if pre1 n d = true then n * (4096 / d) else 0
def plB (n d : Int) : Bool := pre1 n d && inB (plN n d) (-409600000) 409600000
def validB (a b : Int) : Bool := decide (a ≤ b) && decide (-409600000 ≤ a) && decide (b ≤ 409600000)
def goodB (n1 d1 n2 d2 : Int) : Bool := plB n1 d1 && plB n2 d2 && decide (plN n1 d1 ≤ plN n2 d2)
theorem goodB_eq (n1 d1 n2 d2 : Int) : goodB n1 d1 n2 d2 = (pre1 n1 d1 && pre1 n2 d2 && validB (plN n1 d1) (plN n2 d2)) := by
  unfold goodB plB validB inB
  cases pre1 n1 d1 <;> cases pre1 n2 d2 <;> simp
  rw [Bool.eq_iff_iff]; simp; omega
theorem validB_bd {a b : Int} (h : validB a b = true) : a ≤ b ∧ -409600000 ≤ a ∧ b ≤ 409600000 := by
  simp [validB] at h; omega
theorem validB_mk {a b : Int} (h1 : a ≤ b) (h2 : -409600000 ≤ a) (h3 : b ≤ 409600000) : validB a b = true := by
  simp [validB, h1, h2, h3]
theorem goodB_bd {n1 d1 n2 d2 : Int} (h : goodB n1 d1 n2 d2 = true) : plN n1 d1 ≤ plN n2 d2 ∧ -409600000 ≤ plN n1 d1 ∧ plN n2 d2 ≤ 409600000 := by
  rw [goodB_eq] at h; simp at h; exact validB_bd h.2
theorem plN_pre {n d : Int} (h : pre1 n d = true) : plN n d = n * (4096 / d) := by simp [plN, h]
theorem quo_bd (d : Int) (h : 1 ≤ d) : 0 ≤ 4096 / d ∧ 4096 / d ≤ 4096 := ⟨Int.ediv_nonneg (by omega) (by omega), Int.ediv_le_self _ (by omega)⟩
/-- lowest terms of a positive denominator -/
theorem gcd_quo (n d : Int) (hd : d ≠ 0) : Int.gcd (n.tdiv (gcdI n d)) (d.tdiv (gcdI n d)) = 1 := by
  have hg : 0 < Int.gcd n d := Int.gcd_pos_of_ne_zero_right n hd
  obtain ⟨a, ha⟩ := Int.gcd_dvd_left n d
  obtain ⟨b, hb⟩ := Int.gcd_dvd_right n d
  have e1 : n.tdiv (gcdI n d) = a := by
    have : n.tdiv (gcdI n d) = (gcdI n d * a).tdiv (gcdI n d) := by rw [show gcdI n d * a = n from ha.symm]
    rw [this]
    exact Int.mul_tdiv_cancel_left _ (by have := gcdI_pos (a := n) hd; omega)
  have e2 : d.tdiv (gcdI n d) = b := by
    have : d.tdiv (gcdI n d) = (gcdI n d * b).tdiv (gcdI n d) := by rw [show gcdI n d * b = d from hb.symm]
    rw [this]
    exact Int.mul_tdiv_cancel_left _ (by have := gcdI_pos (a := n) hd; omega)
  rw [e1, e2]
  have h := Int.gcd_mul_left (Int.gcd n d : Int) a b
  rw [← ha, ← hb] at h
  have h2 : Int.gcd n d * 1 = Int.gcd n d * Int.gcd a b := by rw [Nat.mul_one]; simpa using h
  exact (Nat.eq_of_mul_eq_mul_left hg h2).symm
theorem quo_mul (n d : Int) (hd : d ≠ 0) : n.tdiv (gcdI n d) * gcdI n d = n ∧ d.tdiv (gcdI n d) * gcdI n d = d :=
  ⟨Int.tdiv_mul_cancel (by unfold gcdI; exact Int.gcd_dvd_left n d), Int.tdiv_mul_cancel (by unfold gcdI; exact Int.gcd_dvd_right n d)⟩
theorem mkND_pos {n d : Int} (hd : 0 < d) : mkN n d = n.tdiv (gcdI n d) ∧ mkD n d = d.tdiv (gcdI n d) := by
  unfold mkN mkD; rw [if_neg (by omega), if_neg (by omega)]; exact ⟨rfl, rfl⟩
theorem mkD_pos {n d : Int} (hd : 0 < d) : 1 ≤ mkD n d ∧ mkD n d ≤ d := by
  rw [(mkND_pos hd).2]
  have h1 := (quo_mul n d (by omega)).2
  have h2 := gcdI_pos (a := n) (b := d) (by omega)
  have h3 : 0 < d.tdiv (gcdI n d) := by
    rcases Int.lt_or_le 0 (d.tdiv (gcdI n d)) with g | g
    · exact g
    · have : d.tdiv (gcdI n d) * gcdI n d ≤ 0 := Int.mul_nonpos_of_nonpos_of_nonneg g (by omega)
      omega
  have h4 := tdiv_bd d (gcdI n d)
  omega
theorem mkN_bd (n d : Int) : (mkN n d).natAbs ≤ n.natAbs := by
  unfold mkN
  have := tdiv_bd n (gcdI n d)
  split <;> omega
/-- a quotient by a positive number is its lowest terms -/
theorem mk_mul {n d : Int} (hd : 0 < d) : mkN n d * d = n * mkD n d := by
  rw [(mkND_pos hd).1, (mkND_pos hd).2]
  obtain ⟨h1, h2⟩ := quo_mul n d (by omega)
  generalize gcdI n d = g at *
  generalize n.tdiv g = x at *
  generalize d.tdiv g = y at *
  subst h1 h2
  rw [Int.mul_assoc, Int.mul_comm g y]
theorem mk_gcd {n d : Int} (hd : 0 < d) : gcdI (mkN n d) (mkD n d) = 1 := by
  rw [(mkND_pos hd).1, (mkND_pos hd).2]
  unfold gcdI
  rw [show Int.gcd (n.tdiv (Int.gcd n d : Int)) (d.tdiv (Int.gcd n d : Int)) = 1 from gcd_quo n d (by omega)]
  rfl
theorem mk_fr {n d : Int} (hd : 0 < d) : frB (mkN n d) (mkD n d) = (decide (mkD n d ≤ 1000000000) && inB (mkN n d) (-1000000000) 1000000000) := by
  have h1 := mkD_pos (n := n) hd
  simp [frB, mk_gcd hd, inB, h1.1]
/-- on the grid -/
theorem mk_place (a : Int) : 4096 % mkD a 4096 = 0 ∧ mkN a 4096 * (4096 / mkD a 4096) = a := by
  have hd := mkD_pos (n := a) (d := 4096) (by omega)
  have hm := mk_mul (n := a) (d := 4096) (by omega)
  have h2 : mkD a 4096 ∣ 4096 := by
    rw [(mkND_pos (by omega)).2]
    exact ⟨gcdI a 4096, ((quo_mul a 4096 (by omega)).2).symm⟩
  refine ⟨Int.emod_eq_zero_of_dvd h2, ?_⟩
  have h3 : (mkN a 4096 * (4096 / mkD a 4096)) * mkD a 4096 = a * mkD a 4096 := by
    rw [Int.mul_assoc, Int.ediv_mul_cancel h2, hm]
  exact Int.eq_of_mul_eq_mul_right (by omega) h3
theorem mk_ok {a : Int} (h1 : -1000000000 ≤ a) (h2 : a ≤ 1000000000) : frB (mkN a 4096) (mkD a 4096) = true := by
  rw [mk_fr (by omega)]
  have h3 := mkD_pos (n := a) (d := 4096) (by omega)
  have h4 := mkN_bd a 4096
  simp [inB]; omega
theorem mk_pre {a : Int} (h : frB (mkN a 4096) (mkD a 4096) = true) : pre1 (mkN a 4096) (mkD a 4096) = true ∧ plN (mkN a 4096) (mkD a 4096) = a := by
  have hp := mk_place a
  have h1 : pre1 (mkN a 4096) (mkD a 4096) = true := by simp [pre1, h, hp.1]
  exact ⟨h1, by rw [plN_pre h1]; exact hp.2⟩
theorem mkF_grid {a : Int} (h1 : -1000000000 ≤ a) (h2 : a ≤ 1000000000) : mkF a 4096 = (mkN a 4096, mkD a 4096, true) := mkF_yes rfl rfl (mk_ok h1 h2)
/-- the interval between two places: valid or nothing -/
theorem make_good (a b : Int) : ((mkF a 4096).2.2 && (mkF b 4096).2.2 && goodB (mkF a 4096).1 (mkF a 4096).2.1 (mkF b 4096).1 (mkF b 4096).2.1) = validB a b := by
  unfold mkF
  by_cases ha : frB (mkN a 4096) (mkD a 4096) = true
  · by_cases hb : frB (mkN b 4096) (mkD b 4096) = true
    · obtain ⟨p1, q1⟩ := mk_pre ha
      obtain ⟨p2, q2⟩ := mk_pre hb
      simp only [if_pos ha, if_pos hb]
      rw [goodB_eq, p1, p2, q1, q2]
      simp
    · rw [if_pos ha, if_neg hb]
      simp only [Bool.and_false, Bool.false_and]
      symm
      rcases h : validB a b with _ | _
      · rfl
      · have := validB_bd h
        exact absurd (mk_ok (a := b) (by omega) (by omega)) hb
  · rw [if_neg ha]
    simp only [Bool.false_and]
    symm
    rcases h : validB a b with _ | _
    · rfl
    · have := validB_bd h
      exact absurd (mk_ok (a := a) (by omega) (by omega)) ha
/-- the interval of two places, or zeros -/
def ivN1 (ok : Bool) (a b : Int) : Int := if (ok && validB a b) = true then mkN a 4096 else 0
def ivD1 (ok : Bool) (a b : Int) : Int := if (ok && validB a b) = true then mkD a 4096 else 0
def ivN2 (ok : Bool) (a b : Int) : Int := if (ok && validB a b) = true then mkN b 4096 else 0
def ivD2 (ok : Bool) (a b : Int) : Int := if (ok && validB a b) = true then mkD b 4096 else 0
def ivV (ok : Bool) (a b : Int) : Value := .tuple #[.agg #[.int .i64 (ivN1 ok a b), .int .i64 (ivD1 ok a b), .int .i64 (ivN2 ok a b), .int .i64 (ivD2 ok a b)], .bool (ok && validB a b)]
theorem ivV_no {ok : Bool} {a b : Int} (h : (ok && validB a b) = false) : ivV ok a b = .tuple #[.agg #[.int .i64 0, .int .i64 0, .int .i64 0, .int .i64 0], .bool false] := by
  simp [ivV, ivN1, ivD1, ivN2, ivD2, h]
theorem ivV_yes {a b : Int} (h : validB a b = true) : ivV true a b = .tuple #[.agg #[.int .i64 (mkN a 4096), .int .i64 (mkD a 4096), .int .i64 (mkN b 4096), .int .i64 (mkD b 4096)], .bool true] := by
  simp [ivV, ivN1, ivD1, ivN2, ivD2, h]
theorem iv_read {a b : Int} (h : validB a b = true) : goodB (mkN a 4096) (mkD a 4096) (mkN b 4096) (mkD b 4096) = true ∧ plN (mkN a 4096) (mkD a 4096) = a ∧ plN (mkN b 4096) (mkD b 4096) = b := by
  have hv := validB_bd h
  have ha := mk_ok (a := a) (by omega) (by omega)
  have hb := mk_ok (a := b) (by omega) (by omega)
  obtain ⟨p1, q1⟩ := mk_pre ha
  obtain ⟨p2, q2⟩ := mk_pre hb
  exact ⟨by rw [goodB_eq, p1, p2, q1, q2, h]; rfl, q1, q2⟩
/-- what the functions on two intervals hand back -/
def opV (g : Bool) (a b : Int) : Value := if g = true then ivV true a b else .tuple #[.agg #[.int .i64 0, .int .i64 0, .int .i64 0, .int .i64 0], .bool false]
theorem opV_eq (g : Bool) (a b : Int) : opV g a b = ivV g a b := by
  cases g
  · rw [ivV_no rfl]; rfl
  · rfl
end
end Go.Proofs.YtnkmgpmehkholaaGreat
