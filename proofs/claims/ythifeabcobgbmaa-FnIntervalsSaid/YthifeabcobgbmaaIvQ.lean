/- The plain law of intervals: what the ends' sums, products and quotients are worth lies between the ends. -/
import Derived.Test.YthifeabcobgbmaaDivPlain
import Derived.Test.YthifeabcobgbmaaTwo
namespace Go.Proofs.Ythifeabcobgbmaa
open Go.RowKit
set_option linter.unusedVariables false
set_option linter.unusedSimpArgs false

theorem worth_lt {n1 d1 n2 d2 p1 q1 p2 q2 : Int} (hd1 : 0 < d1) (hd2 : 0 < d2) (hq1 : 0 < q1) (hq2 : 0 < q2) (e1 : n1 * q1 = p1 * d1) (e2 : n2 * q2 = p2 * d2) : n1 * d2 < n2 * d1 ↔ p1 * q2 < p2 * q1 := by
  have k1 : n1 * d2 * (q1 * q2) = (p1 * q2) * (d1 * d2) := by grind
  have k2 : n2 * d1 * (q1 * q2) = (p2 * q1) * (d1 * d2) := by grind
  have hq : 0 < q1 * q2 := Int.mul_pos hq1 hq2
  have hd : 0 < d1 * d2 := Int.mul_pos hd1 hd2
  constructor
  · intro h
    have h2 := Int.mul_lt_mul_of_pos_right h hq
    rw [k1, k2] at h2
    exact Int.lt_of_mul_lt_mul_right h2 (Int.le_of_lt hd)
  · intro h
    have h2 := Int.mul_lt_mul_of_pos_right h hd
    rw [← k1, ← k2] at h2
    exact Int.lt_of_mul_lt_mul_right h2 (Int.le_of_lt hq)
theorem down_le' {a b : Int} (hb : 0 < b) : down a b * b ≤ a := Int.ediv_mul_le a (by omega)
theorem le_up' {a b : Int} (hb : 0 < b) : a ≤ -(down (-a) b) * b := by
  have := down_le' (a := -a) hb
  rw [Int.neg_mul]; omega
theorem mkF_mul {n d : Int} (hd : d ≠ 0) : mkN n d * d = n * mkD n d := by
  obtain ⟨h1, h2⟩ := quo_mul n d hd
  unfold mkN mkD
  generalize gcdI n d = g at *
  generalize n.tdiv g = x at *
  generalize d.tdiv g = y at *
  split <;> grind
theorem mkF_val {n d : Int} (h : (mkF n d).2.2 = true) : (mkF n d).1 = mkN n d ∧ (mkF n d).2.1 = mkD n d ∧ frB (mkN n d) (mkD n d) = true := by
  unfold mkF at h ⊢
  split at h
  · rename_i hh; rw [if_pos hh]; exact ⟨rfl, rfl, hh⟩
  · cases h
/-- between two places of the grid -/
def inF (lo hi n d : Int) : Prop := ¬ (n * mkD lo 4096 < mkN lo 4096 * d) ∧ ¬ (mkN hi 4096 * d < n * mkD hi 4096)
theorem inF_of {lo hi n d p q : Int} (hd : 0 < d) (hq : 0 < q) (e : n * q = p * d) (h1 : lo * q ≤ p * 4096) (h2 : p * 4096 ≤ hi * q) : inF lo hi n d := by
  have m1 := mk_mul (n := lo) (d := 4096) (by omega)
  have m2 := mk_mul (n := hi) (d := 4096) (by omega)
  have d1 := (mkD_pos (n := lo) (d := 4096) (by omega)).1
  have d2 := (mkD_pos (n := hi) (d := 4096) (by omega)).1
  refine ⟨fun h => ?_, fun h => ?_⟩
  · have := (worth_lt hd (by omega) hq (by omega) e m1).1 h; omega
  · have := (worth_lt (by omega) hd (by omega) hq m2 e).1 h; omega
theorem suF_in {nx dx ny dy lo hi : Int} (px : pre1 nx dx = true) (py : pre1 ny dy = true) (hf : (suF nx dx ny dy).2.2 = true) (h1 : lo ≤ plN nx dx + plN ny dy) (h2 : plN nx dx + plN ny dy ≤ hi) : inF lo hi (suF nx dx ny dy).1 (suF nx dx ny dy).2.1 := by
  have bx := pre1_bd px
  have by_ := pre1_bd py
  have mx := plN_mul px
  have my := plN_mul py
  unfold suF at hf ⊢
  obtain ⟨e1, e2, e3⟩ := mkF_val hf
  rw [e1, e2]
  have hD : 0 < dx * dy := Int.mul_pos (by omega) (by omega)
  have m := mkF_mul (n := nx * dy + ny * dx) (d := dx * dy) (by omega)
  have hd := (frB_bd e3).1
  refine inF_of (p := plN nx dx + plN ny dy) (q := 4096) (by omega) (by omega) ?_ (by omega) (by omega)
  refine Int.eq_of_mul_eq_mul_right (a := dx * dy) (by omega) ?_
  generalize mkN (nx * dy + ny * dx) (dx * dy) = fn at *
  generalize mkD (nx * dy + ny * dx) (dx * dy) = fd at *
  generalize plN nx dx = X at *
  generalize plN ny dy = Y at *
  clear h1 h2 bx by_ hf e1 e2 e3 hd hD px py
  grind
theorem prF_in {nx dx ny dy lo hi : Int} (px : pre1 nx dx = true) (py : pre1 ny dy = true) (hf : (prF nx dx ny dy).2.2 = true) (h1 : lo * 4096 ≤ plN nx dx * plN ny dy) (h2 : plN nx dx * plN ny dy ≤ hi * 4096) : inF lo hi (prF nx dx ny dy).1 (prF nx dx ny dy).2.1 := by
  have bx := pre1_bd px
  have by_ := pre1_bd py
  have mx := plN_mul px
  have my := plN_mul py
  unfold prF at hf ⊢
  obtain ⟨e1, e2, e3⟩ := mkF_val hf
  rw [e1, e2]
  have hD : 0 < dx * dy := Int.mul_pos (by omega) (by omega)
  have m := mkF_mul (n := nx * ny) (d := dx * dy) (by omega)
  have hd := (frB_bd e3).1
  refine inF_of (p := plN nx dx * plN ny dy) (q := 16777216) (by omega) (by omega) ?_ (by omega) (by omega)
  refine Int.eq_of_mul_eq_mul_right (a := dx * dy) (by omega) ?_
  generalize mkN (nx * ny) (dx * dy) = fn at *
  generalize mkD (nx * ny) (dx * dy) = fd at *
  generalize plN nx dx = X at *
  generalize plN ny dy = Y at *
  clear h1 h2 bx by_ hf e1 e2 e3 hd hD px py
  grind
theorem quF_in {nx dx ny dy lo hi : Int} (px : pre1 nx dx = true) (py : pre1 ny dy = true) (hy : plN ny dy ≠ 0) (hf : (quF nx dx ny dy).2.2 = true) (h1 : lo ≤ ovD (plN nx dx) (plN ny dy)) (h2 : ovU (plN nx dx) (plN ny dy) ≤ hi) : inF lo hi (quF nx dx ny dy).1 (quF nx dx ny dy).2.1 := by
  have bx := pre1_bd px
  have by_ := pre1_bd py
  have mx := plN_mul px
  have my := plN_mul py
  have hyn : ny ≠ 0 := fun e => by
    subst e
    rw [Int.zero_mul] at my
    rcases Int.mul_eq_zero.1 my with h | h <;> omega
  unfold quF at hf ⊢
  rw [if_neg hyn] at hf ⊢
  obtain ⟨e1, e2, e3⟩ := mkF_val hf
  rw [e1, e2]
  have hD : dx * ny ≠ 0 := fun e => by rcases Int.mul_eq_zero.1 e with h | h <;> omega
  have m := mkF_mul (n := nx * dy) (d := dx * ny) hD
  have hd := (frB_bd e3).1
  have hYp := ovY_pos hy
  have l1 := down_le' (a := ovX (plN nx dx) (plN ny dy)) hYp
  have l2 := le_up' (a := ovX (plN nx dx) (plN ny dy)) hYp
  have k1 := Int.mul_le_mul_of_nonneg_right h1 (Int.le_of_lt hYp)
  have k2 := Int.mul_le_mul_of_nonneg_right h2 (Int.le_of_lt hYp)
  unfold ovD at k1; unfold ovU at k2
  have w : mkN (nx * dy) (dx * ny) * plN ny dy = plN nx dx * mkD (nx * dy) (dx * ny) := by
    refine Int.eq_of_mul_eq_mul_right (a := dx * dy) (by have := Int.mul_pos (a := dx) (b := dy) (by omega) (by omega); omega) ?_
    generalize mkN (nx * dy) (dx * ny) = fn at *
    generalize mkD (nx * dy) (dx * ny) = fd at *
    generalize plN nx dx = X at *
    generalize plN ny dy = Y at *
    clear h1 h2 bx by_ hf e1 e2 e3 hd hD px py k1 k2 l1 l2 hYp hy hyn
    grind
  by_cases hs : plN ny dy < 0
  · simp only [ovX, ovY, if_pos hs] at *
    refine inF_of (p := -plN nx dx) (q := -plN ny dy) (by omega) (by omega) (by rw [Int.mul_neg, Int.neg_mul, w]) (by omega) (by omega)
  · simp only [ovX, ovY, if_neg hs] at *
    refine inF_of (p := plN nx dx) (q := plN ny dy) (by omega) (by omega) w (by omega) (by omega)
/-- the law's products and quotients: ends' results lie between -/
theorem mul_lo {a b c d x y : Int} (hx : x = a ∨ x = b) (hy : y = c ∨ y = d) : mulLo a b c d * 4096 ≤ x * y ∧ x * y ≤ mulHi a b c d * 4096 := by
  have h1 := down_le' (a := min (a * c) (min (a * d) (min (b * c) (b * d)))) (b := 4096) (by omega)
  have h2 := le_up' (a := max (a * c) (max (a * d) (max (b * c) (b * d)))) (b := 4096) (by omega)
  unfold mulLo mulHi up
  rcases hx with rfl | rfl <;> rcases hy with rfl | rfl <;> constructor <;> omega
theorem div_lo {a b c d x y : Int} (hx : x = a ∨ x = b) (hy : y = c ∨ y = d) : divLo a b c d ≤ ovD x y ∧ ovU x y ≤ divHi a b c d := by
  unfold divLo divHi
  rcases hx with rfl | rfl <;> rcases hy with rfl | rfl <;> constructor <;> omega
theorem mulLo_comm (a b c d : Int) : mulLo c d a b = mulLo a b c d ∧ mulHi c d a b = mulHi a b c d := by
  unfold mulLo mulHi
  rw [Int.mul_comm c a, Int.mul_comm c b, Int.mul_comm d a, Int.mul_comm d b]
  constructor <;> (congr 1; omega)
/-- a place against a fraction on the grid -/
theorem in_grid {lo hi n d : Int} (p : pre1 n d = true) (h1 : lo ≤ plN n d) (h2 : plN n d ≤ hi) : inF lo hi n d := by
  have b := pre1_bd p
  have m := plN_mul p
  exact inF_of (p := plN n d) (q := 4096) (by omega) (by omega) m.symm (by omega) (by omega)
theorem lt_grid {n1 d1 n2 d2 : Int} (p1 : pre1 n1 d1 = true) (p2 : pre1 n2 d2 = true) : n1 * d2 < n2 * d1 ↔ plN n1 d1 < plN n2 d2 := by
  have b1 := pre1_bd p1
  have b2 := pre1_bd p2
  have m1 := plN_mul p1
  have m2 := plN_mul p2
  rw [worth_lt (q1 := 4096) (q2 := 4096) (by omega) (by omega) (by omega) (by omega) m1.symm m2.symm]
  omega
end Go.Proofs.Ythifeabcobgbmaa
