/- Fractions under the four operations, and the program's reckoner that remembers a failure: contracts of both sides. -/
import Derived.Test.YtldonmcbnhgbdaaFrac
import Derived.Test.YtldonmcbnhgbdaaCalc
import Derived.Test.YtldonmcbnhgbdaaDrawn
import Derived.Deep.DrawnRows
namespace Go.Proofs.Ytldonmcbnhgbdaa
open Go.RowKit
set_option linter.unusedVariables false
set_option maxHeartbeats 4000000
set_option maxRecDepth 20000
set_option linter.unusedSimpArgs false

/-! ### Plain words -/
def prF (n1 d1 n2 d2 : Int) : Int × Int × Bool := mkF (n1 * n2) (d1 * d2)
def suF (n1 d1 n2 d2 : Int) : Int × Int × Bool := mkF (n1 * d2 + n2 * d1) (d1 * d2)
def diF (n1 d1 n2 d2 : Int) : Int × Int × Bool := mkF (n1 * d2 - n2 * d1) (d1 * d2)
def quF (n1 d1 n2 d2 : Int) : Int × Int × Bool := if n2 = 0 then (0, 0, false) else mkF (n1 * d2) (d1 * n2)
theorem mkF_frB {n d : Int} (h : (mkF n d).2.2 = true) : frB (mkF n d).1 (mkF n d).2.1 = true := by
  unfold mkF at h ⊢
  split at h
  · rename_i hh; rw [if_pos hh]; exact hh
  · cases h
theorem mkF_zero {n d : Int} (h : (mkF n d).2.2 = false) : mkF n d = (0, 0, false) := by
  unfold mkF at h ⊢
  split at h
  · cases h
  · rename_i hh; rw [if_neg hh]
theorem frB_one {a : Int} (h1 : -1000000000 ≤ a) (h2 : a ≤ 1000000000) : frB a 1 = true := by
  simp [frB, inB, gcdI, h1, h2]
theorem mkF_whole {a : Int} (h1 : -1000000000 ≤ a) (h2 : a ≤ 1000000000) : mkF a 1 = (a, 1, true) := by
  have e1 : mkN a 1 = a := by simp [mkN, gcdI]
  have e2 : mkD a 1 = 1 := by simp [mkD, gcdI]
  simp [mkF, e1, e2, frB_one h1 h2]
theorem frB_mul {n1 d1 n2 d2 : Int} (h1 : frB n1 d1 = true) (h2 : frB n2 d2 = true) : (-1000000000000000000 ≤ n1 * n2 ∧ n1 * n2 ≤ 1000000000000000000) ∧ (-1000000000000000000 ≤ n1 * d2 ∧ n1 * d2 ≤ 1000000000000000000) ∧
    (-1000000000000000000 ≤ n2 * d1 ∧ n2 * d1 ≤ 1000000000000000000) ∧ (-1000000000000000000 ≤ d1 * n2 ∧ d1 * n2 ≤ 1000000000000000000) ∧ 1 ≤ d1 * d2 ∧ d1 * d2 ≤ 1000000000000000000 ∧ (n2 ≠ 0 → d1 * n2 ≠ 0) := by
  have b1 := frB_bd h1
  have b2 := frB_bd h2
  have m1 := mul_bd (a := n1) (b := n2) (A := 1000000000) (B := 1000000000) (by omega) (by omega)
  have m2 := mul_bd (a := n1) (b := d2) (A := 1000000000) (B := 1000000000) (by omega) (by omega)
  have m3 := mul_bd (a := n2) (b := d1) (A := 1000000000) (B := 1000000000) (by omega) (by omega)
  have m4 := mul_bd (a := d1) (b := n2) (A := 1000000000) (B := 1000000000) (by omega) (by omega)
  have m5 := mul_bd (a := d1) (b := d2) (A := 1000000000) (B := 1000000000) (by omega) (by omega)
  have p : 0 < d1 * d2 := Int.mul_pos (by omega) (by omega)
  refine ⟨by omega, by omega, by omega, by omega, by omega, by omega, fun h e => ?_⟩
  rcases Int.mul_eq_zero.1 e with x | x <;> omega
def stN (v : Bool) (f : Int × Int × Bool) : Int := if (v && f.2.2) = true then f.1 else 0
def stD (v : Bool) (f : Int × Int × Bool) : Int := if (v && f.2.2) = true then f.2.1 else 1
theorem st_frB (v : Bool) (n d : Int) : frB (stN v (mkF n d)) (stD v (mkF n d)) = true := by
  unfold stN stD
  split
  · rename_i h; simp only [Bool.and_eq_true] at h; exact mkF_frB h.2
  · exact frB_one (by omega) (by omega)
theorem quF_frB (v : Bool) (n1 d1 n2 d2 : Int) : frB (stN v (quF n1 d1 n2 d2)) (stD v (quF n1 d1 n2 d2)) = true := by
  unfold quF
  split
  · simp only [stN, stD, Bool.and_false]; exact frB_one (by omega) (by omega)
  · exact st_frB v _ _

/-! ### Contracts: the reference's four operations -/
theorem frInt_any (a : Int) (w : World) : Calls Try.prog 51 #[.int .i64 a] w fun e w' => e = .returned (.agg #[.int .i64 a, .int .i64 1]) ∧ Below w.heap.size w w' := by
  go_enter Try.func51, Try.ntmps51
  go_wp2
  refine bodyPost_ret (v := _) (by simp [results, Try.results51, go_sem, *]) rfl ⟨rfl, ?_⟩
  repeat' first | (with_reducible first | apply zRf | assumption | apply zDn | apply zDr | apply zAl | apply zSt | refine zVi (by assumption) ?_ ?_) | go_size

/-! ### The program's four operations -/
end Go.Proofs.Ytldonmcbnhgbdaa
