/- FailingPrimes, IsEverywhereSoluble: both sides, and the walks of the laws. -/
import Derived.Test.YtegiddpakocodaaGreatPr8
import Derived.Test.YtegiddpakocodaaGreatToL
import Derived.Test.YtegiddpakocodaaGreatMk
namespace Go.Proofs.YtegiddpakocodaaGreat
open Go.RowKit
set_option linter.unusedVariables false
set_option maxHeartbeats 4000000
set_option maxRecDepth 20000
set_option linter.unusedSimpArgs false
theorem sorted_len : ∀ {l : List Int} {lo hi : Int}, l.Pairwise (· < ·) → (∀ x ∈ l, lo ≤ x ∧ x ≤ hi) → l.length ≤ (hi + 1 - lo).toNat
  | [], _, _, _, _ => by simp
  | x :: l, lo, hi, hs, hb => by
    rw [List.pairwise_cons] at hs
    have h1 := hb x (by simp)
    have := sorted_len (lo := x + 1) (hi := hi) hs.2 (fun y hy => ⟨by have := hs.1 y hy; omega, (hb y (by simp [hy])).2⟩)
    rw [List.length_cons]; omega
theorem flV_len (D A C : Int) : (flV D A C).1.length ≤ 996 := by
  unfold flV
  split
  · simp
  · by_cases h : ∃ p, p ∈ bdL D A C ∧ 997 < p
    · rw [flF_big h]; simp
    · refine Nat.le_trans flF_len ?_
      have := sorted_len (lo := 2) (hi := 997) (bdL_sorted D A C) (fun x hx => ⟨bdL_two D A C x hx, by
        rcases Int.lt_or_le 997 x with h1 | h1
        · exact (h ⟨x, hx, h1⟩).elim
        · exact h1⟩)
      simp at this ⊢; omega
def fpV (D A C : Int) : List Int × Bool := if qaB D A C = true then flV D A C else ([], false)
theorem fpV_len (D A C : Int) : (fpV D A C).1.length ≤ 996 := by
  unfold fpV; split
  · exact flV_len D A C
  · simp
/-- whether there is a real point -/
def rlB (D A C : Int) : Bool := decide (0 < D) || (decide (0 < C) || (decide (0 < A) && decide (4 * D * C ≤ A * A)))
def evV (D A C : Int) : Bool × Bool := if qaB D A C = true then ((flV D A C).2 && (rlB D A C && (flV D A C).1.isEmpty), (flV D A C).2) else (false, false)
theorem Below.two {A B C : World} (h : Below A.heap.size A B) (k : Below B.heap.size B C) : Below A.heap.size A C := h.trans (k.mono h.size)
theorem keepB {W V : World} {b : Nat} {X : Obj} (h : Below W.heap.size W V) (e : W.heap[b]? = some X) : V.heap[b]? = some X := (h.block b (Array.getElem?_eq_some_iff.1 e).1).trans e
theorem below_size_le {A B : World} {n : Nat} (h : Below A.heap.size A B) (hn : n ≤ A.heap.size) : n ≤ B.heap.size := Nat.le_trans hn h.size
theorem FailingPrimes_any (D A C : Int) (w : World) : Calls Tryz.prog 5 #[.agg #[.int .i64 D, .int .i64 A, .int .i64 C]] w (NewJ w (fpV D A C).1 (fpV D A C).2) := by
  have T1 := fun W : World => Lib.hid (isQuartic_any D A C W)
  have hnot : ∀ (x : Bool) (w : World), (Op.unary .not (.bool x)).run Tryz.prog w = .ok (.bool (!x)) w := fun _ _ => rfl
  unfold fpV
  cases h1 : qaB D A C
  · rw [h1] at T1
    have T2 := T1
    clear h1
    simp only [Bool.false_eq_true, if_false]
    have tok1 : True := trivial
    have tok2 : True := trivial
    go_enter Tryz.func5, Tryz.ntmps5
    go_wp2_with (first | (have _t := tok1; go_at_call 22; (with_reducible refine ((T1 _).out).mono ?_); rintro e w1 ⟨rfl, hb1⟩; clear tok1 _t; have hz1 := hb1.size; (try simp only [World.size_alloc, World.size_setCell, World.size_drew, World.size_drewN'] at hz1); (try (have kq := cellAt hb1 (w.heap.size) (by go_size); have k1_w_0_0 := kq 0; have k1_w_0_1 := kq 1; have k1_w_0_2 := kq 2; clear kq; have f1_w_0 := frozAt hb1 (w.heap.size) (by go_size); simp [go_sem, *] at k1_w_0_0 k1_w_0_1 k1_w_0_2 f1_w_0)); (try have l1_w_0 : w.heap.size < w1.heap.size := by omega)) | (have _t := tok2; go_at_call 23; (with_reducible refine ((T2 _).out).mono ?_); rintro e w2 ⟨u, B, rfl, hu, hBu, hb2⟩; clear tok2 _t; have hz2 := hb2.size; (try simp only [World.size_alloc, World.size_setCell, World.size_drew, World.size_drewN'] at hz2); (try (have kq := cellAt hb2 (w.heap.size) (by go_size); have k2_w_0_0 := kq 0; have k2_w_0_1 := kq 1; have k2_w_0_2 := kq 2; clear kq; have f2_w_0 := frozAt hb2 (w.heap.size) (by go_size); simp [go_sem, *] at k2_w_0_0 k2_w_0_1 k2_w_0_2 f2_w_0)); (try have l2_w_0 : w.heap.size < w2.heap.size := by omega); (try clear k1_w_0_0 k1_w_0_1 k1_w_0_2 f1_w_0); (try clear l1_w_0)))
    go_ret2
    refine ⟨_, w.heap.size, rfl, ownI_nil _ _ _, Nat.le_refl _, ?_⟩
    repeat' first | (with_reducible first | apply zRf | assumption | apply zDn | apply zDr | apply zAl | apply zSt | refine zVi (by assumption) ?_ ?_) | go_size
  · have T2 := fun W : World => Lib.hid (failing_any D A C W h1)
    rw [h1] at T1
    clear h1
    simp only [if_true]
    unfold NewJ at T2
    have tok1 : True := trivial
    have tok2 : True := trivial
    go_enter Tryz.func5, Tryz.ntmps5
    go_wp2_with (first | (have _t := tok1; go_at_call 22; (with_reducible refine ((T1 _).out).mono ?_); rintro e w1 ⟨rfl, hb1⟩; clear tok1 _t; have hz1 := hb1.size; (try simp only [World.size_alloc, World.size_setCell, World.size_drew, World.size_drewN'] at hz1); (try (have kq := cellAt hb1 (w.heap.size) (by go_size); have k1_w_0_0 := kq 0; have k1_w_0_1 := kq 1; have k1_w_0_2 := kq 2; clear kq; have f1_w_0 := frozAt hb1 (w.heap.size) (by go_size); simp [go_sem, *] at k1_w_0_0 k1_w_0_1 k1_w_0_2 f1_w_0)); (try have l1_w_0 : w.heap.size < w1.heap.size := by omega)) | (have _t := tok2; go_at_call 23; (with_reducible refine ((T2 _).out).mono ?_); rintro e w2 ⟨u, B, rfl, hu, hBu, hb2⟩; clear tok2 _t; have hz2 := hb2.size; (try simp only [World.size_alloc, World.size_setCell, World.size_drew, World.size_drewN'] at hz2); (try (have kq := cellAt hb2 (w.heap.size) (by go_size); have k2_w_0_0 := kq 0; have k2_w_0_1 := kq 1; have k2_w_0_2 := kq 2; clear kq; have f2_w_0 := frozAt hb2 (w.heap.size) (by go_size); simp [go_sem, *] at k2_w_0_0 k2_w_0_1 k2_w_0_2 f2_w_0)); (try have l2_w_0 : w.heap.size < w2.heap.size := by omega); (try clear k1_w_0_0 k1_w_0_1 k1_w_0_2 f1_w_0); (try clear l1_w_0)))
    go_ret2
    refine ⟨_, B, rfl, hu, Nat.le_trans (below_size_le hb1 (by simp)) hBu, ?_⟩
    repeat' first | (with_reducible first | apply zRf | assumption | apply zDn | apply zDr | apply zAl | apply zSt | refine zVi (by assumption) ?_ ?_) | go_size
theorem sFailingPrimes_any (D A C : Int) (w : World) : Calls Tryz.prog 6 #[.agg #[.int .i64 D, .int .i64 A, .int .i64 C]] w (NewJ w (fpV D A C).1 (fpV D A C).2) := by
  have T1 := fun W : World => Lib.hid (loGood_any D A C W)
  have hnot : ∀ (x : Bool) (w : World), (Op.unary .not (.bool x)).run Tryz.prog w = .ok (.bool (!x)) w := fun _ _ => rfl
  unfold fpV
  cases h1 : qaB D A C
  · rw [h1] at T1
    have T2 := T1
    clear h1
    simp only [Bool.false_eq_true, if_false]
    have tok1 : True := trivial
    have tok2 : True := trivial
    go_enter Tryz.func6, Tryz.ntmps6
    go_wp2_with (first | (have _t := tok1; go_at_call 24; (with_reducible refine ((T1 _).out).mono ?_); rintro e w1 ⟨rfl, hb1⟩; clear tok1 _t; have hz1 := hb1.size; (try simp only [World.size_alloc, World.size_setCell, World.size_drew, World.size_drewN'] at hz1); (try (have kq := cellAt hb1 (w.heap.size) (by go_size); have k1_w_0_0 := kq 0; have k1_w_0_1 := kq 1; have k1_w_0_2 := kq 2; clear kq; have f1_w_0 := frozAt hb1 (w.heap.size) (by go_size); simp [go_sem, *] at k1_w_0_0 k1_w_0_1 k1_w_0_2 f1_w_0)); (try have l1_w_0 : w.heap.size < w1.heap.size := by omega)) | (have _t := tok2; go_at_call 25; (with_reducible refine ((T2 _).out).mono ?_); rintro e w2 ⟨u, B, rfl, hu, hBu, hb2⟩; clear tok2 _t; have hz2 := hb2.size; (try simp only [World.size_alloc, World.size_setCell, World.size_drew, World.size_drewN'] at hz2); (try (have kq := cellAt hb2 (w.heap.size) (by go_size); have k2_w_0_0 := kq 0; have k2_w_0_1 := kq 1; have k2_w_0_2 := kq 2; clear kq; have f2_w_0 := frozAt hb2 (w.heap.size) (by go_size); simp [go_sem, *] at k2_w_0_0 k2_w_0_1 k2_w_0_2 f2_w_0)); (try have l2_w_0 : w.heap.size < w2.heap.size := by omega); (try clear k1_w_0_0 k1_w_0_1 k1_w_0_2 f1_w_0); (try clear l1_w_0)))
    go_ret2
    refine ⟨_, w.heap.size, rfl, ownI_nil _ _ _, Nat.le_refl _, ?_⟩
    repeat' first | (with_reducible first | apply zRf | assumption | apply zDn | apply zDr | apply zAl | apply zSt | refine zVi (by assumption) ?_ ?_) | go_size
  · have T2 := fun W : World => Lib.hid (loFailing_any D A C W h1)
    rw [h1] at T1
    clear h1
    simp only [if_true]
    unfold NewJ at T2
    have tok1 : True := trivial
    have tok2 : True := trivial
    go_enter Tryz.func6, Tryz.ntmps6
    go_wp2_with (first | (have _t := tok1; go_at_call 24; (with_reducible refine ((T1 _).out).mono ?_); rintro e w1 ⟨rfl, hb1⟩; clear tok1 _t; have hz1 := hb1.size; (try simp only [World.size_alloc, World.size_setCell, World.size_drew, World.size_drewN'] at hz1); (try (have kq := cellAt hb1 (w.heap.size) (by go_size); have k1_w_0_0 := kq 0; have k1_w_0_1 := kq 1; have k1_w_0_2 := kq 2; clear kq; have f1_w_0 := frozAt hb1 (w.heap.size) (by go_size); simp [go_sem, *] at k1_w_0_0 k1_w_0_1 k1_w_0_2 f1_w_0)); (try have l1_w_0 : w.heap.size < w1.heap.size := by omega)) | (have _t := tok2; go_at_call 25; (with_reducible refine ((T2 _).out).mono ?_); rintro e w2 ⟨u, B, rfl, hu, hBu, hb2⟩; clear tok2 _t; have hz2 := hb2.size; (try simp only [World.size_alloc, World.size_setCell, World.size_drew, World.size_drewN'] at hz2); (try (have kq := cellAt hb2 (w.heap.size) (by go_size); have k2_w_0_0 := kq 0; have k2_w_0_1 := kq 1; have k2_w_0_2 := kq 2; clear kq; have f2_w_0 := frozAt hb2 (w.heap.size) (by go_size); simp [go_sem, *] at k2_w_0_0 k2_w_0_1 k2_w_0_2 f2_w_0)); (try have l2_w_0 : w.heap.size < w2.heap.size := by omega); (try clear k1_w_0_0 k1_w_0_1 k1_w_0_2 f1_w_0); (try clear l1_w_0)))
    go_ret2
    refine ⟨_, B, rfl, hu, Nat.le_trans (below_size_le hb1 (by simp)) hBu, ?_⟩
    repeat' first | (with_reducible first | apply zRf | assumption | apply zDn | apply zDr | apply zAl | apply zSt | refine zVi (by assumption) ?_ ?_) | go_size
theorem isReal_any (D A C : Int) (w : World) (hq : qaB D A C = true) : Calls Tryz.prog 28 #[.agg #[.int .i64 D, .int .i64 A, .int .i64 C]] w fun e w' => e = .returned (.bool (rlB D A C)) ∧ Below w.heap.size w w' := by
  have hb := qaB_bd hq
  have m1 := mul_bd (a := A) (b := A) (A := 100000) (B := 100000) (by omega) (by omega)
  have m2 := mul_bd (a := 4 * D) (b := C) (A := 400000) (B := 100000) (by omega) (by omega)
  unfold rlB
  by_cases h1 : 0 < D
  · rw [show decide (0 < D) = true by simpa using h1]
    go_enter Tryz.func28, Tryz.ntmps28
    go_wp2
    go_ret
    refine ⟨by simp, ?_⟩
    repeat' first | (with_reducible first | apply zRf | assumption | apply zDn | apply zDr | apply zAl | apply zSt | refine zVi (by assumption) ?_ ?_) | go_size
  · rw [show decide (0 < D) = false by simpa using h1]
    by_cases h2 : 0 < C
    · rw [show decide (0 < C) = true by simpa using h2]
      go_enter Tryz.func28, Tryz.ntmps28
      go_wp2
      go_ret
      refine ⟨by simp, ?_⟩
      repeat' first | (with_reducible first | apply zRf | assumption | apply zDn | apply zDr | apply zAl | apply zSt | refine zVi (by assumption) ?_ ?_) | go_size
    · rw [show decide (0 < C) = false by simpa using h2]
      by_cases h3 : 0 < A
      · rw [show decide (0 < A) = true by simpa using h3]
        by_cases h4 : 4 * D * C ≤ A * A
        · rw [show decide (4 * D * C ≤ A * A) = true by simpa using h4]
          go_enter Tryz.func28, Tryz.ntmps28
          go_wp2
          go_ret
          refine ⟨by simp [h4], ?_⟩
          repeat' first | (with_reducible first | apply zRf | assumption | apply zDn | apply zDr | apply zAl | apply zSt | refine zVi (by assumption) ?_ ?_) | go_size
        · rw [show decide (4 * D * C ≤ A * A) = false by simpa using h4]
          go_enter Tryz.func28, Tryz.ntmps28
          go_wp2
          go_ret
          refine ⟨by simp [h4], ?_⟩
          repeat' first | (with_reducible first | apply zRf | assumption | apply zDn | apply zDr | apply zAl | apply zSt | refine zVi (by assumption) ?_ ?_) | go_size
      · rw [show decide (0 < A) = false by simpa using h3]
        go_enter Tryz.func28, Tryz.ntmps28
        go_wp2
        go_ret
        refine ⟨by simp, ?_⟩
        repeat' first | (with_reducible first | apply zRf | assumption | apply zDn | apply zDr | apply zAl | apply zSt | refine zVi (by assumption) ?_ ?_) | go_size
theorem loReal_any (D A C : Int) (w : World) (hq : qaB D A C = true) : Calls Tryz.prog 29 #[.agg #[.int .i64 D, .int .i64 A, .int .i64 C]] w fun e w' => e = .returned (.bool (rlB D A C)) ∧ Below w.heap.size w w' := by
  have hb := qaB_bd hq
  have m1 := mul_bd (a := A) (b := A) (A := 100000) (B := 100000) (by omega) (by omega)
  have m2 := mul_bd (a := 4 * D) (b := C) (A := 400000) (B := 100000) (by omega) (by omega)
  unfold rlB
  by_cases h1 : 0 < D
  · rw [show decide (0 < D) = true by simpa using h1]
    go_enter Tryz.func29, Tryz.ntmps29
    go_wp2
    go_ret
    refine ⟨by simp, ?_⟩
    repeat' first | (with_reducible first | apply zRf | assumption | apply zDn | apply zDr | apply zAl | apply zSt | refine zVi (by assumption) ?_ ?_) | go_size
  · rw [show decide (0 < D) = false by simpa using h1]
    by_cases h2 : 0 < C
    · rw [show decide (0 < C) = true by simpa using h2]
      go_enter Tryz.func29, Tryz.ntmps29
      go_wp2
      go_ret
      refine ⟨by simp, ?_⟩
      repeat' first | (with_reducible first | apply zRf | assumption | apply zDn | apply zDr | apply zAl | apply zSt | refine zVi (by assumption) ?_ ?_) | go_size
    · rw [show decide (0 < C) = false by simpa using h2]
      by_cases h3 : 0 < A
      · rw [show decide (0 < A) = true by simpa using h3]
        by_cases h4 : 4 * D * C ≤ A * A
        · rw [show decide (4 * D * C ≤ A * A) = true by simpa using h4]
          go_enter Tryz.func29, Tryz.ntmps29
          go_wp2
          go_ret
          refine ⟨by simp [h4], ?_⟩
          repeat' first | (with_reducible first | apply zRf | assumption | apply zDn | apply zDr | apply zAl | apply zSt | refine zVi (by assumption) ?_ ?_) | go_size
        · rw [show decide (4 * D * C ≤ A * A) = false by simpa using h4]
          go_enter Tryz.func29, Tryz.ntmps29
          go_wp2
          go_ret
          refine ⟨by simp [h4], ?_⟩
          repeat' first | (with_reducible first | apply zRf | assumption | apply zDn | apply zDr | apply zAl | apply zSt | refine zVi (by assumption) ?_ ?_) | go_size
      · rw [show decide (0 < A) = false by simpa using h3]
        go_enter Tryz.func29, Tryz.ntmps29
        go_wp2
        go_ret
        refine ⟨by simp, ?_⟩
        repeat' first | (with_reducible first | apply zRf | assumption | apply zDn | apply zDr | apply zAl | apply zSt | refine zVi (by assumption) ?_ ?_) | go_size
end Go.Proofs.YtegiddpakocodaaGreat
