/- FailingPrimes, IsEverywhereSoluble: both sides, and the walks of the laws. -/
import Derived.Test.YtpikckgaonppkaaGreatPr8
import Derived.Test.YtpikckgaonppkaaGreatToL
import Derived.Test.YtpikckgaonppkaaGreatMk
namespace Go.Proofs.YtpikckgaonppkaaGreat
open Go.RowKit
set_option linter.unusedVariables false
set_option maxHeartbeats 4000000
set_option maxRecDepth 20000
set_option linter.unusedSimpArgs false
theorem sorted_len : ∀ {l : List Int} {lo hi : Int}, l.Pairwise (· < ·) → (∀ x ∈ l, lo ≤ x ∧ x ≤ hi) → l.length ≤ (hi + 1 - lo).toNat
  | [], _, _, _, _ => by simp
  | x :: l, lo, hi, hs, hb => by
    rw [List.pairwise_cons] at hs
    have h1 := hb x (by simp)
    have := sorted_len (lo := x + 1) (hi := hi) hs.2 (fun y hy => ⟨by have := hs.1 y hy; omega, (hb y (by simp [hy])).2⟩)
    rw [List.length_cons]; omega
theorem flV_len (D A C : Int) : (flV D A C).1.length ≤ 996 := by
  unfold flV
  split
  · simp
  · by_cases h : ∃ p, p ∈ bdL D A C ∧ 997 < p
    · rw [flF_big h]; simp
    · refine Nat.le_trans flF_len ?_
      have := sorted_len (lo := 2) (hi := 997) (bdL_sorted D A C) (fun x hx => ⟨bdL_two D A C x hx, by
        rcases Int.lt_or_le 997 x with h1 | h1
        · exact (h ⟨x, hx, h1⟩).elim
        · exact h1⟩)
      simp at this ⊢; omega
def fpV (D A C : Int) : List Int × Bool := if qaB D A C = true then flV D A C else ([], false)
theorem fpV_len (D A C : Int) : (fpV D A C).1.length ≤ 996 := by
  unfold fpV; split
  · exact flV_len D A C
  · simp
/-- whether there is a real point -/
def rlB (D A C : Int) : Bool := decide (0 < D) || (decide (0 < C) || (decide (0 < A) && decide (4 * D * C ≤ A * A)))
def evV (D A C : Int) : Bool × Bool := if qaB D A C = true then ((flV D A C).2 && (rlB D A C && (flV D A C).1.isEmpty), (flV D A C).2) else (false, false)
theorem Below.two {A B C : World} (h : Below A.heap.size A B) (k : Below B.heap.size B C) : Below A.heap.size A C := h.trans (k.mono h.size)
theorem keepB {W V : World} {b : Nat} {X : Obj} (h : Below W.heap.size W V) (e : W.heap[b]? = some X) : V.heap[b]? = some X := (h.block b (Array.getElem?_eq_some_iff.1 e).1).trans e
theorem below_size_le {A B : World} {n : Nat} (h : Below A.heap.size A B) (hn : n ≤ A.heap.size) : n ≤ B.heap.size := Nat.le_trans hn h.size
theorem isReal_any (D A C : Int) (w : World) (hq : qaB D A C = true) : Calls Tryz.prog 41 #[.agg #[.int .i64 D, .int .i64 A, .int .i64 C]] w fun e w' => e = .returned (.bool (rlB D A C)) ∧ Below w.heap.size w w' := by
  have hb := qaB_bd hq
  have m1 := mul_bd (a := A) (b := A) (A := 100000) (B := 100000) (by omega) (by omega)
  have m2 := mul_bd (a := 4 * D) (b := C) (A := 400000) (B := 100000) (by omega) (by omega)
  unfold rlB
  by_cases h1 : 0 < D
  · rw [show decide (0 < D) = true by simpa using h1]
    go_enter Tryz.func41, Tryz.ntmps41
    go_wp2
    go_ret
    refine ⟨by simp, ?_⟩
    repeat' first | (with_reducible first | apply zRf | assumption | apply zDn | apply zDr | apply zAl | apply zSt | refine zVi (by assumption) ?_ ?_) | go_size
  · rw [show decide (0 < D) = false by simpa using h1]
    by_cases h2 : 0 < C
    · rw [show decide (0 < C) = true by simpa using h2]
      go_enter Tryz.func41, Tryz.ntmps41
      go_wp2
      go_ret
      refine ⟨by simp, ?_⟩
      repeat' first | (with_reducible first | apply zRf | assumption | apply zDn | apply zDr | apply zAl | apply zSt | refine zVi (by assumption) ?_ ?_) | go_size
    · rw [show decide (0 < C) = false by simpa using h2]
      by_cases h3 : 0 < A
      · rw [show decide (0 < A) = true by simpa using h3]
        by_cases h4 : 4 * D * C ≤ A * A
        · rw [show decide (4 * D * C ≤ A * A) = true by simpa using h4]
          go_enter Tryz.func41, Tryz.ntmps41
          go_wp2
          go_ret
          refine ⟨by simp [h4], ?_⟩
          repeat' first | (with_reducible first | apply zRf | assumption | apply zDn | apply zDr | apply zAl | apply zSt | refine zVi (by assumption) ?_ ?_) | go_size
        · rw [show decide (4 * D * C ≤ A * A) = false by simpa using h4]
          go_enter Tryz.func41, Tryz.ntmps41
          go_wp2
          go_ret
          refine ⟨by simp [h4], ?_⟩
          repeat' first | (with_reducible first | apply zRf | assumption | apply zDn | apply zDr | apply zAl | apply zSt | refine zVi (by assumption) ?_ ?_) | go_size
      · rw [show decide (0 < A) = false by simpa using h3]
        go_enter Tryz.func41, Tryz.ntmps41
        go_wp2
        go_ret
        refine ⟨by simp, ?_⟩
        repeat' first | (with_reducible first | apply zRf | assumption | apply zDn | apply zDr | apply zAl | apply zSt | refine zVi (by assumption) ?_ ?_) | go_size
theorem loReal_any (D A C : Int) (w : World) (hq : qaB D A C = true) : Calls Tryz.prog 32 #[.agg #[.int .i64 D, .int .i64 A, .int .i64 C]] w fun e w' => e = .returned (.bool (rlB D A C)) ∧ Below w.heap.size w w' := by
  have hb := qaB_bd hq
  have m1 := mul_bd (a := A) (b := A) (A := 100000) (B := 100000) (by omega) (by omega)
  have m2 := mul_bd (a := 4 * D) (b := C) (A := 400000) (B := 100000) (by omega) (by omega)
  unfold rlB
  by_cases h1 : 0 < D
  · rw [show decide (0 < D) = true by simpa using h1]
    go_enter Tryz.func32, Tryz.ntmps32
    go_wp2
    go_ret
    refine ⟨by simp, ?_⟩
    repeat' first | (with_reducible first | apply zRf | assumption | apply zDn | apply zDr | apply zAl | apply zSt | refine zVi (by assumption) ?_ ?_) | go_size
  · rw [show decide (0 < D) = false by simpa using h1]
    by_cases h2 : 0 < C
    · rw [show decide (0 < C) = true by simpa using h2]
      go_enter Tryz.func32, Tryz.ntmps32
      go_wp2
      go_ret
      refine ⟨by simp, ?_⟩
      repeat' first | (with_reducible first | apply zRf | assumption | apply zDn | apply zDr | apply zAl | apply zSt | refine zVi (by assumption) ?_ ?_) | go_size
    · rw [show decide (0 < C) = false by simpa using h2]
      by_cases h3 : 0 < A
      · rw [show decide (0 < A) = true by simpa using h3]
        by_cases h4 : 4 * D * C ≤ A * A
        · rw [show decide (4 * D * C ≤ A * A) = true by simpa using h4]
          go_enter Tryz.func32, Tryz.ntmps32
          go_wp2
          go_ret
          refine ⟨by simp [h4], ?_⟩
          repeat' first | (with_reducible first | apply zRf | assumption | apply zDn | apply zDr | apply zAl | apply zSt | refine zVi (by assumption) ?_ ?_) | go_size
        · rw [show decide (4 * D * C ≤ A * A) = false by simpa using h4]
          go_enter Tryz.func32, Tryz.ntmps32
          go_wp2
          go_ret
          refine ⟨by simp [h4], ?_⟩
          repeat' first | (with_reducible first | apply zRf | assumption | apply zDn | apply zDr | apply zAl | apply zSt | refine zVi (by assumption) ?_ ?_) | go_size
      · rw [show decide (0 < A) = false by simpa using h3]
        go_enter Tryz.func32, Tryz.ntmps32
        go_wp2
        go_ret
        refine ⟨by simp, ?_⟩
        repeat' first | (with_reducible first | apply zRf | assumption | apply zDn | apply zDr | apply zAl | apply zSt | refine zVi (by assumption) ?_ ?_) | go_size
end Go.Proofs.YtpikckgaonppkaaGreat
