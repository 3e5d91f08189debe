/- FnClasses: squarefree parts and divisors, classes, quartics of two-curves, torsion: contracts of both sides. -/
import Derived.Test.YtnemnkbcbokafaaRk1
import Derived.Test.YtnemnkbcbokafaaDs2
import Derived.Test.YtnemnkbcbokafaaDs3
import Derived.Test.YtnemnkbcbokafaaTwoL
import Derived.Test.YtnemnkbcbokafaaExR
import Derived.Test.YtnemnkbcbokafaaLq1
namespace Go.Proofs.Ytnemnkbcbokafaa
open Go.RowKit
set_option linter.unusedVariables false
set_option maxHeartbeats 4000000
set_option maxRecDepth 20000
set_option linter.unusedSimpArgs false
def spB (n : Int) : Bool := inB n (-1000000000) 1000000000 && decide (n ≠ 0)
def spV (n : Int) : Int := ifZ (spB n) (clV n)
def sdL (n : Int) : List Int := if spB n = true then dvR n.natAbs else []
theorem spB_bd {n : Int} (h : spB n = true) : n ≠ 0 ∧ -1000000000 ≤ n ∧ n ≤ 1000000000 := by
  unfold spB at h
  obtain ⟨h1, h2⟩ := Bool.and_eq_true_iff.1 h
  have := inB_iff.1 h1
  have := of_decide_eq_true h2
  omega
theorem clV_bd {n : Int} (hn : n ≠ 0) : -(n.natAbs : Int) ≤ clV n ∧ clV n ≤ n.natAbs := by
  have := clF_take_bd (n := n) (m := n.natAbs) (by omega) (prL n.natAbs).length
  rw [List.take_length] at this
  exact this
def NewD (w : World) (zs : List Int) (ok : Bool) (e : Ending) (w' : World) : Prop := ∃ a c, e = .returned (.tuple #[.slice a zs.length c, .bool ok]) ∧ Sx w' a zs.length c zs ∧ Below w.heap.size w w'
theorem tcSmall_any (n : Int) (w : World) : Calls Try.prog 31 #[.int .i64 n] w fun e w' => e = .returned (.bool (spB n)) ∧ w = w' := by
  have T1 := fun W : World => Lib.hid (l1In_any n (-1000000000) 1000000000 W)
  unfold spB
  generalize inB n (-1000000000) 1000000000 = x at *
  by_cases h : n = 0
  · subst h
    rw [show decide ((0 : Int) ≠ 0) = false from rfl, Bool.and_false]
    go_enter Try.func31, Try.ntmps31
    go_wp2_with (first | (go_at_call 51; (with_reducible refine ((T1 _).out).mono ?_); rintro e w' ⟨rfl, rfl⟩))
    go_ret
    exact ⟨rfl, rfl⟩
  · rw [show decide (n ≠ 0) = true from decide_eq_true h, Bool.and_true]
    have hb : (n != 0) = true := by simpa using h
    go_enter Try.func31, Try.ntmps31
    go_wp2_with (first | (go_at_call 51; (with_reducible refine ((T1 _).out).mono ?_); rintro e w' ⟨rfl, rfl⟩))
    go_ret
    exact ⟨rfl, rfl⟩
theorem SquarefreePart_any (n : Int) (w : World) : Calls Try.prog 5 #[.int .i64 n] w fun e w' => e = .returned (.tuple #[.int .i64 (spV n), .bool (spB n)]) ∧ Below w.heap.size w w' := by
  have T1 := fun W : World => Lib.hid (inside_any n (-1000000000) 1000000000 W)
  unfold spV
  rcases h1 : inB n (-1000000000) 1000000000 with _ | _
  · rw [show spB n = false by unfold spB; rw [h1]; rfl, ifZ_f]
    rw [h1] at T1
    have T2 := T1
    clear h1
    have tok1 : True := trivial
    have tok2 : True := trivial
    go_enter Try.func5, Try.ntmps5
    go_wp2_with (first | (go_at_call 29; (with_reducible refine ((T1 _).out).mono ?_); rintro e w' ⟨rfl, rfl⟩) | (have _t := tok2; go_at_call 30; (with_reducible refine ((T2 _).out).mono ?_); rintro e w2 ⟨rfl, hb2⟩; clear tok2 _t; have hz2 := hb2.size; (try simp only [World.size_alloc, World.size_setCell, World.size_drew, World.size_drewN'] at hz2)))
    go_ret2
    exact ⟨rfl, Below.refl _ _⟩
  · have hb := inB_iff.1 h1
    by_cases h0 : n = 0
    · rw [show spB n = false by unfold spB; rw [h0]; rfl, ifZ_f]
      rw [h1] at T1
      have T2 := T1
      clear h1
      have hz : (n == 0) = true := by simpa using h0
      clear h0
      have tok1 : True := trivial
      have tok2 : True := trivial
      go_enter Try.func5, Try.ntmps5
      go_wp2_with (first | (go_at_call 29; (with_reducible refine ((T1 _).out).mono ?_); rintro e w' ⟨rfl, rfl⟩) | (have _t := tok2; go_at_call 30; (with_reducible refine ((T2 _).out).mono ?_); rintro e w2 ⟨rfl, hb2⟩; clear tok2 _t; have hz2 := hb2.size; (try simp only [World.size_alloc, World.size_setCell, World.size_drew, World.size_drewN'] at hz2)))
      go_ret2
      exact ⟨rfl, Below.refl _ _⟩
    · rw [show spB n = true by unfold spB; rw [h1, decide_eq_true h0]; rfl, ifZ_t]
      rw [h1] at T1
      have T2 := fun W : World => Lib.hid (squarefree_any n W h0 (by omega))
      have hz : (n == 0) = false := by simpa using h0
      generalize clV n = c at *
      clear h1 h0
      have tok1 : True := trivial
      have tok2 : True := trivial
      go_enter Try.func5, Try.ntmps5
      go_wp2_with (first | (go_at_call 29; (with_reducible refine ((T1 _).out).mono ?_); rintro e w' ⟨rfl, rfl⟩) | (have _t := tok2; go_at_call 30; (with_reducible refine ((T2 _).out).mono ?_); rintro e w2 ⟨rfl, hb2⟩; clear tok2 _t; have hz2 := hb2.size; (try simp only [World.size_alloc, World.size_setCell, World.size_drew, World.size_drewN'] at hz2)))
      go_ret2
      refine ⟨rfl, ?_⟩
      repeat' first | (with_reducible first | apply zRf | assumption | apply zDn | apply zDr | apply zAl | apply zSt | refine zVi (by assumption) ?_ ?_) | go_size
theorem sSquarefreePart_any (n : Int) (w : World) : Calls Try.prog 6 #[.int .i64 n] w fun e w' => e = .returned (.tuple #[.int .i64 (spV n), .bool (spB n)]) ∧ Below w.heap.size w w' := by
  have T1 := fun W : World => Lib.hid (tcSmall_any n W)
  unfold spV
  rcases h1 : spB n with _ | _
  · rw [ifZ_f]
    rw [h1] at T1
    have T2 := T1
    clear h1
    have tok1 : True := trivial
    have tok2 : True := trivial
    go_enter Try.func6, Try.ntmps6
    go_wp2_with (first | (go_at_call 31; (with_reducible refine ((T1 _).out).mono ?_); rintro e w' ⟨rfl, rfl⟩) | (have _t := tok2; go_at_call 32; (with_reducible refine ((T2 _).out).mono ?_); rintro e w2 ⟨rfl, hb2⟩; clear tok2 _t; have hz2 := hb2.size; (try simp only [World.size_alloc, World.size_setCell, World.size_drew, World.size_drewN'] at hz2)))
    go_ret2
    exact ⟨rfl, Below.refl _ _⟩
  · have hb := spB_bd h1
    rw [ifZ_t]
    rw [h1] at T1
    have T2 := fun W : World => Lib.hid (tcClass_any n W hb.1 hb.2)
    generalize clV n = c at *
    clear h1
    have tok1 : True := trivial
    have tok2 : True := trivial
    go_enter Try.func6, Try.ntmps6
    go_wp2_with (first | (go_at_call 31; (with_reducible refine ((T1 _).out).mono ?_); rintro e w' ⟨rfl, rfl⟩) | (have _t := tok2; go_at_call 32; (with_reducible refine ((T2 _).out).mono ?_); rintro e w2 ⟨rfl, hb2⟩; clear tok2 _t; have hz2 := hb2.size; (try simp only [World.size_alloc, World.size_setCell, World.size_drew, World.size_drewN'] at hz2)))
    go_ret2
    refine ⟨rfl, ?_⟩
    repeat' first | (with_reducible first | apply zRf | assumption | apply zDn | apply zDr | apply zAl | apply zSt | refine zVi (by assumption) ?_ ?_) | go_size
theorem SquarefreeDivisors_any (n : Int) (w : World) : Calls Try.prog 7 #[.int .i64 n] w (NewD w (sdL n) (spB n)) := by
  have T1 := fun W : World => Lib.hid (inside_any n (-1000000000) 1000000000 W)
  unfold sdL
  rcases h1 : inB n (-1000000000) 1000000000 with _ | _
  · rw [show spB n = false by unfold spB; rw [h1]; rfl]
    simp only [Bool.false_eq_true, if_false]
    rw [h1] at T1
    have T2 := T1
    clear h1
    have tok1 : True := trivial
    have tok2 : True := trivial
    go_enter Try.func7, Try.ntmps7
    go_wp2_with (first | (go_at_call 29; (with_reducible refine ((T1 _).out).mono ?_); rintro e w' ⟨rfl, rfl⟩) | (have _t := tok2; go_at_call 33; (with_reducible refine ((T2 _).out).mono ?_); rintro e w2 ⟨a, c, rfl, hx, hb2⟩; clear tok2 _t; have hz2 := hb2.size; (try simp only [World.size_alloc, World.size_setCell, World.size_drew, World.size_drewN'] at hz2)))
    go_ret2
    exact ⟨_, _, rfl, Sx.none _, Below.refl _ _⟩
  · have hb := inB_iff.1 h1
    by_cases h0 : n = 0
    · rw [show spB n = false by unfold spB; rw [h0]; rfl]
      simp only [Bool.false_eq_true, if_false]
      rw [h1] at T1
      have T2 := T1
      clear h1
      have hz : (n == 0) = true := by simpa using h0
      clear h0
      have tok1 : True := trivial
      have tok2 : True := trivial
      go_enter Try.func7, Try.ntmps7
      go_wp2_with (first | (go_at_call 29; (with_reducible refine ((T1 _).out).mono ?_); rintro e w' ⟨rfl, rfl⟩) | (have _t := tok2; go_at_call 33; (with_reducible refine ((T2 _).out).mono ?_); rintro e w2 ⟨a, c, rfl, hx, hb2⟩; clear tok2 _t; have hz2 := hb2.size; (try simp only [World.size_alloc, World.size_setCell, World.size_drew, World.size_drewN'] at hz2)))
      go_ret2
      exact ⟨_, _, rfl, Sx.none _, Below.refl _ _⟩
    · rw [show spB n = true by unfold spB; rw [h1, decide_eq_true h0]; rfl]
      simp only [if_true]
      rw [h1] at T1
      have T2 := fun W : World => Lib.hid (squarefreeDivisors_any n W h0 (by omega))
      have hz : (n == 0) = false := by simpa using h0
      generalize dvR n.natAbs = L at *
      clear h1 h0
      have tok1 : True := trivial
      have tok2 : True := trivial
      go_enter Try.func7, Try.ntmps7
      go_wp2_with (first | (go_at_call 29; (with_reducible refine ((T1 _).out).mono ?_); rintro e w' ⟨rfl, rfl⟩) | (have _t := tok2; go_at_call 33; (with_reducible refine ((T2 _).out).mono ?_); rintro e w2 ⟨a, c, rfl, hx, hb2⟩; clear tok2 _t; have hz2 := hb2.size; (try simp only [World.size_alloc, World.size_setCell, World.size_drew, World.size_drewN'] at hz2)))
      go_ret2
      refine ⟨_, _, rfl, hx, ?_⟩
      repeat' first | (with_reducible first | apply zRf | assumption | apply zDn | apply zDr | apply zAl | apply zSt | refine zVi (by assumption) ?_ ?_) | go_size
theorem sSquarefreeDivisors_any (n : Int) (w : World) : Calls Try.prog 8 #[.int .i64 n] w (NewD w (sdL n) (spB n)) := by
  have T1 := fun W : World => Lib.hid (tcSmall_any n W)
  unfold sdL
  rcases h1 : spB n with _ | _
  · simp only [Bool.false_eq_true, if_false]
    rw [h1] at T1
    have T2 := T1
    clear h1
    have tok1 : True := trivial
    have tok2 : True := trivial
    go_enter Try.func8, Try.ntmps8
    go_wp2_with (first | (go_at_call 31; (with_reducible refine ((T1 _).out).mono ?_); rintro e w' ⟨rfl, rfl⟩) | (have _t := tok2; go_at_call 34; (with_reducible refine ((T2 _).out).mono ?_); rintro e w2 ⟨a, c, rfl, hx, hb2⟩; clear tok2 _t; have hz2 := hb2.size; (try simp only [World.size_alloc, World.size_setCell, World.size_drew, World.size_drewN'] at hz2)))
    go_ret2
    exact ⟨_, _, rfl, Sx.none _, Below.refl _ _⟩
  · have hb := spB_bd h1
    simp only [if_true]
    rw [h1] at T1
    have T2 := fun W : World => Lib.hid (tcDivisors_any n W hb.1 (by omega))
    generalize dvR n.natAbs = L at *
    clear h1
    have tok1 : True := trivial
    have tok2 : True := trivial
    go_enter Try.func8, Try.ntmps8
    go_wp2_with (first | (go_at_call 31; (with_reducible refine ((T1 _).out).mono ?_); rintro e w' ⟨rfl, rfl⟩) | (have _t := tok2; go_at_call 34; (with_reducible refine ((T2 _).out).mono ?_); rintro e w2 ⟨a, c, rfl, hx, hb2⟩; clear tok2 _t; have hz2 := hb2.size; (try simp only [World.size_alloc, World.size_setCell, World.size_drew, World.size_drewN'] at hz2)))
    go_ret2
    refine ⟨_, _, rfl, hx, ?_⟩
    repeat' first | (with_reducible first | apply zRf | assumption | apply zDn | apply zDr | apply zAl | apply zSt | refine zVi (by assumption) ?_ ?_) | go_size
/-! ### classes of points -/
def scB (a b nx dx : Int) : Bool := tcB a b && frB nx dx
def scV (a b nx dx : Int) : Int := ifZ (scB a b nx dx) (if nx = 0 then clV b else clV nx * clV dx)
theorem sc_mul {nx dx : Int} (h0 : nx ≠ 0) (h : frB nx dx = true) : -1000000000000000000 ≤ clV nx * clV dx ∧ clV nx * clV dx ≤ 1000000000000000000 := by
  obtain ⟨b1, b2, b3, b4⟩ := frB_bd h
  have c1 := clV_bd h0
  have c2 := clV_bd (n := dx) (by omega)
  have := mul_bd (a := clV nx) (b := clV dx) (A := 1000000000) (B := 1000000000) (by omega) (by omega)
  omega
theorem SquareClass_any (a b nx dx : Int) (w : World) : Calls Try.prog 10 #[.agg #[.int .i64 a, .int .i64 b], .agg #[.int .i64 nx, .int .i64 dx]] w fun e w' => e = .returned (.tuple #[.int .i64 (scV a b nx dx), .bool (scB a b nx dx)]) ∧ Below w.heap.size w w' := by
  have T1 := fun W : World => Lib.hid (isTwoCurve_any a b W)
  have T2 := fun W : World => Lib.hid (isFraction_any nx dx W)
  unfold scV
  rcases h1 : tcB a b with _ | _
  · rw [show scB a b nx dx = false by unfold scB; rw [h1]; rfl, ifZ_f]
    rw [h1] at T1
    have T3 := T1
    have T4 := T1
    clear h1
    have tok1 : True := trivial
    have tok2 : True := trivial
    have tok3 : True := trivial
    have tok4 : True := trivial
    go_enter Try.func10, Try.ntmps10
    go_wp2_with (first | (have _t := tok1; go_at_call 38; (with_reducible refine ((T1 _).out).mono ?_); rintro e w1 ⟨rfl, hb1⟩; clear tok1 _t; have hz1 := hb1.size; (try simp only [World.size_alloc, World.size_setCell, World.size_drew, World.size_drewN'] at hz1); (try (have kq := cellAt hb1 (w.heap.size) (by go_size); have k1_w_0_0 := kq 0; have k1_w_0_1 := kq 1; clear kq; have f1_w_0 := frozAt hb1 (w.heap.size) (by go_size); simp [go_sem, *] at k1_w_0_0 k1_w_0_1 f1_w_0)); (try have l1_w_0 : w.heap.size < w1.heap.size := by omega); (try (have kq := cellAt hb1 (w.heap.size + 1) (by go_size); have k1_w_1_0 := kq 0; have k1_w_1_1 := kq 1; clear kq; have f1_w_1 := frozAt hb1 (w.heap.size + 1) (by go_size); simp [go_sem, *] at k1_w_1_0 k1_w_1_1 f1_w_1)); (try have l1_w_1 : w.heap.size + 1 < w1.heap.size := by omega); (try (have kq := cellAt hb1 (w.heap.size) (by go_size); have k1_w_0_0 := kq 0; have k1_w_0_1 := kq 1; clear kq; have f1_w_0 := frozAt hb1 (w.heap.size) (by go_size); simp [go_sem, *] at k1_w_0_0 k1_w_0_1 f1_w_0)); (try have l1_w_0 : w.heap.size < w1.heap.size := by omega); (try (have kq := cellAt hb1 (w.heap.size + 1) (by go_size); have k1_w_1_0 := kq 0; have k1_w_1_1 := kq 1; clear kq; have f1_w_1 := frozAt hb1 (w.heap.size + 1) (by go_size); simp [go_sem, *] at k1_w_1_0 k1_w_1_1 f1_w_1)); (try have l1_w_1 : w.heap.size + 1 < w1.heap.size := by omega)) | (have _t := tok2; go_at_call 39; (with_reducible refine ((T2 _).out).mono ?_); rintro e w2 ⟨rfl, hb2⟩; clear tok2 _t; have hz2 := hb2.size; (try simp only [World.size_alloc, World.size_setCell, World.size_drew, World.size_drewN'] at hz2); (try (have kq := cellAt hb2 (w.heap.size) (by go_size); have k2_w_0_0 := kq 0; have k2_w_0_1 := kq 1; clear kq; have f2_w_0 := frozAt hb2 (w.heap.size) (by go_size); simp [go_sem, *] at k2_w_0_0 k2_w_0_1 f2_w_0)); (try have l2_w_0 : w.heap.size < w2.heap.size := by omega); (try (have kq := cellAt hb2 (w.heap.size + 1) (by go_size); have k2_w_1_0 := kq 0; have k2_w_1_1 := kq 1; clear kq; have f2_w_1 := frozAt hb2 (w.heap.size + 1) (by go_size); simp [go_sem, *] at k2_w_1_0 k2_w_1_1 f2_w_1)); (try have l2_w_1 : w.heap.size + 1 < w2.heap.size := by omega); (try (have kq := cellAt hb2 (w.heap.size) (by go_size); have k2_w_0_0 := kq 0; have k2_w_0_1 := kq 1; clear kq; have f2_w_0 := frozAt hb2 (w.heap.size) (by go_size); simp [go_sem, *] at k2_w_0_0 k2_w_0_1 f2_w_0)); (try have l2_w_0 : w.heap.size < w2.heap.size := by omega); (try (have kq := cellAt hb2 (w.heap.size + 1) (by go_size); have k2_w_1_0 := kq 0; have k2_w_1_1 := kq 1; clear kq; have f2_w_1 := frozAt hb2 (w.heap.size + 1) (by go_size); simp [go_sem, *] at k2_w_1_0 k2_w_1_1 f2_w_1)); (try have l2_w_1 : w.heap.size + 1 < w2.heap.size := by omega); (try clear k1_w_0_0 k1_w_0_1 f1_w_0); (try clear l1_w_0); (try clear k1_w_1_0 k1_w_1_1 f1_w_1); (try clear l1_w_1); (try clear k1_w_0_0 k1_w_0_1 f1_w_0); (try clear l1_w_0); (try clear k1_w_1_0 k1_w_1_1 f1_w_1); (try clear l1_w_1)) | (have _t := tok3; go_at_call 30; (with_reducible refine ((T3 _).out).mono ?_); rintro e w3 ⟨rfl, hb3⟩; clear tok3 _t; have hz3 := hb3.size; (try simp only [World.size_alloc, World.size_setCell, World.size_drew, World.size_drewN'] at hz3); (try (have kq := cellAt hb3 (w.heap.size) (by go_size); have k3_w_0_0 := kq 0; have k3_w_0_1 := kq 1; clear kq; have f3_w_0 := frozAt hb3 (w.heap.size) (by go_size); simp [go_sem, *] at k3_w_0_0 k3_w_0_1 f3_w_0)); (try have l3_w_0 : w.heap.size < w3.heap.size := by omega); (try (have kq := cellAt hb3 (w.heap.size + 1) (by go_size); have k3_w_1_0 := kq 0; have k3_w_1_1 := kq 1; clear kq; have f3_w_1 := frozAt hb3 (w.heap.size + 1) (by go_size); simp [go_sem, *] at k3_w_1_0 k3_w_1_1 f3_w_1)); (try have l3_w_1 : w.heap.size + 1 < w3.heap.size := by omega); (try (have kq := cellAt hb3 (w.heap.size) (by go_size); have k3_w_0_0 := kq 0; have k3_w_0_1 := kq 1; clear kq; have f3_w_0 := frozAt hb3 (w.heap.size) (by go_size); simp [go_sem, *] at k3_w_0_0 k3_w_0_1 f3_w_0)); (try have l3_w_0 : w.heap.size < w3.heap.size := by omega); (try (have kq := cellAt hb3 (w.heap.size + 1) (by go_size); have k3_w_1_0 := kq 0; have k3_w_1_1 := kq 1; clear kq; have f3_w_1 := frozAt hb3 (w.heap.size + 1) (by go_size); simp [go_sem, *] at k3_w_1_0 k3_w_1_1 f3_w_1)); (try have l3_w_1 : w.heap.size + 1 < w3.heap.size := by omega); (try clear k1_w_0_0 k1_w_0_1 f1_w_0); (try clear l1_w_0); (try clear k1_w_1_0 k1_w_1_1 f1_w_1); (try clear l1_w_1); (try clear k1_w_0_0 k1_w_0_1 f1_w_0); (try clear l1_w_0); (try clear k1_w_1_0 k1_w_1_1 f1_w_1); (try clear l1_w_1); (try clear k2_w_0_0 k2_w_0_1 f2_w_0); (try clear l2_w_0); (try clear k2_w_1_0 k2_w_1_1 f2_w_1); (try clear l2_w_1); (try clear k2_w_0_0 k2_w_0_1 f2_w_0); (try clear l2_w_0); (try clear k2_w_1_0 k2_w_1_1 f2_w_1); (try clear l2_w_1)) | (have _t := tok4; go_at_call 30; (with_reducible refine ((T4 _).out).mono ?_); rintro e w4 ⟨rfl, hb4⟩; clear tok4 _t; have hz4 := hb4.size; (try simp only [World.size_alloc, World.size_setCell, World.size_drew, World.size_drewN'] at hz4); (try (have kq := cellAt hb4 (w.heap.size) (by go_size); have k4_w_0_0 := kq 0; have k4_w_0_1 := kq 1; clear kq; have f4_w_0 := frozAt hb4 (w.heap.size) (by go_size); simp [go_sem, *] at k4_w_0_0 k4_w_0_1 f4_w_0)); (try have l4_w_0 : w.heap.size < w4.heap.size := by omega); (try (have kq := cellAt hb4 (w.heap.size + 1) (by go_size); have k4_w_1_0 := kq 0; have k4_w_1_1 := kq 1; clear kq; have f4_w_1 := frozAt hb4 (w.heap.size + 1) (by go_size); simp [go_sem, *] at k4_w_1_0 k4_w_1_1 f4_w_1)); (try have l4_w_1 : w.heap.size + 1 < w4.heap.size := by omega); (try (have kq := cellAt hb4 (w.heap.size) (by go_size); have k4_w_0_0 := kq 0; have k4_w_0_1 := kq 1; clear kq; have f4_w_0 := frozAt hb4 (w.heap.size) (by go_size); simp [go_sem, *] at k4_w_0_0 k4_w_0_1 f4_w_0)); (try have l4_w_0 : w.heap.size < w4.heap.size := by omega); (try (have kq := cellAt hb4 (w.heap.size + 1) (by go_size); have k4_w_1_0 := kq 0; have k4_w_1_1 := kq 1; clear kq; have f4_w_1 := frozAt hb4 (w.heap.size + 1) (by go_size); simp [go_sem, *] at k4_w_1_0 k4_w_1_1 f4_w_1)); (try have l4_w_1 : w.heap.size + 1 < w4.heap.size := by omega); (try clear k1_w_0_0 k1_w_0_1 f1_w_0); (try clear l1_w_0); (try clear k1_w_1_0 k1_w_1_1 f1_w_1); (try clear l1_w_1); (try clear k1_w_0_0 k1_w_0_1 f1_w_0); (try clear l1_w_0); (try clear k1_w_1_0 k1_w_1_1 f1_w_1); (try clear l1_w_1); (try clear k2_w_0_0 k2_w_0_1 f2_w_0); (try clear l2_w_0); (try clear k2_w_1_0 k2_w_1_1 f2_w_1); (try clear l2_w_1); (try clear k2_w_0_0 k2_w_0_1 f2_w_0); (try clear l2_w_0); (try clear k2_w_1_0 k2_w_1_1 f2_w_1); (try clear l2_w_1); (try clear k3_w_0_0 k3_w_0_1 f3_w_0); (try clear l3_w_0); (try clear k3_w_1_0 k3_w_1_1 f3_w_1); (try clear l3_w_1); (try clear k3_w_0_0 k3_w_0_1 f3_w_0); (try clear l3_w_0); (try clear k3_w_1_0 k3_w_1_1 f3_w_1); (try clear l3_w_1)))
    go_ret2
    refine ⟨rfl, ?_⟩
    repeat' first | (with_reducible first | apply zRf | assumption | apply zDn | apply zDr | apply zAl | apply zSt | refine zVi (by assumption) ?_ ?_) | go_size
  · rcases h2 : frB nx dx with _ | _
    · rw [show scB a b nx dx = false by unfold scB; rw [h1, h2]; rfl, ifZ_f]
      rw [h1] at T1
      rw [h2] at T2
      have T3 := T1
      have T4 := T1
      clear h1 h2
      have tok1 : True := trivial
      have tok2 : True := trivial
      have tok3 : True := trivial
      have tok4 : True := trivial
      go_enter Try.func10, Try.ntmps10
      go_wp2_with (first | (have _t := tok1; go_at_call 38; (with_reducible refine ((T1 _).out).mono ?_); rintro e w1 ⟨rfl, hb1⟩; clear tok1 _t; have hz1 := hb1.size; (try simp only [World.size_alloc, World.size_setCell, World.size_drew, World.size_drewN'] at hz1); (try (have kq := cellAt hb1 (w.heap.size) (by go_size); have k1_w_0_0 := kq 0; have k1_w_0_1 := kq 1; clear kq; have f1_w_0 := frozAt hb1 (w.heap.size) (by go_size); simp [go_sem, *] at k1_w_0_0 k1_w_0_1 f1_w_0)); (try have l1_w_0 : w.heap.size < w1.heap.size := by omega); (try (have kq := cellAt hb1 (w.heap.size + 1) (by go_size); have k1_w_1_0 := kq 0; have k1_w_1_1 := kq 1; clear kq; have f1_w_1 := frozAt hb1 (w.heap.size + 1) (by go_size); simp [go_sem, *] at k1_w_1_0 k1_w_1_1 f1_w_1)); (try have l1_w_1 : w.heap.size + 1 < w1.heap.size := by omega); (try (have kq := cellAt hb1 (w.heap.size) (by go_size); have k1_w_0_0 := kq 0; have k1_w_0_1 := kq 1; clear kq; have f1_w_0 := frozAt hb1 (w.heap.size) (by go_size); simp [go_sem, *] at k1_w_0_0 k1_w_0_1 f1_w_0)); (try have l1_w_0 : w.heap.size < w1.heap.size := by omega); (try (have kq := cellAt hb1 (w.heap.size + 1) (by go_size); have k1_w_1_0 := kq 0; have k1_w_1_1 := kq 1; clear kq; have f1_w_1 := frozAt hb1 (w.heap.size + 1) (by go_size); simp [go_sem, *] at k1_w_1_0 k1_w_1_1 f1_w_1)); (try have l1_w_1 : w.heap.size + 1 < w1.heap.size := by omega)) | (have _t := tok2; go_at_call 39; (with_reducible refine ((T2 _).out).mono ?_); rintro e w2 ⟨rfl, hb2⟩; clear tok2 _t; have hz2 := hb2.size; (try simp only [World.size_alloc, World.size_setCell, World.size_drew, World.size_drewN'] at hz2); (try (have kq := cellAt hb2 (w.heap.size) (by go_size); have k2_w_0_0 := kq 0; have k2_w_0_1 := kq 1; clear kq; have f2_w_0 := frozAt hb2 (w.heap.size) (by go_size); simp [go_sem, *] at k2_w_0_0 k2_w_0_1 f2_w_0)); (try have l2_w_0 : w.heap.size < w2.heap.size := by omega); (try (have kq := cellAt hb2 (w.heap.size + 1) (by go_size); have k2_w_1_0 := kq 0; have k2_w_1_1 := kq 1; clear kq; have f2_w_1 := frozAt hb2 (w.heap.size + 1) (by go_size); simp [go_sem, *] at k2_w_1_0 k2_w_1_1 f2_w_1)); (try have l2_w_1 : w.heap.size + 1 < w2.heap.size := by omega); (try (have kq := cellAt hb2 (w.heap.size) (by go_size); have k2_w_0_0 := kq 0; have k2_w_0_1 := kq 1; clear kq; have f2_w_0 := frozAt hb2 (w.heap.size) (by go_size); simp [go_sem, *] at k2_w_0_0 k2_w_0_1 f2_w_0)); (try have l2_w_0 : w.heap.size < w2.heap.size := by omega); (try (have kq := cellAt hb2 (w.heap.size + 1) (by go_size); have k2_w_1_0 := kq 0; have k2_w_1_1 := kq 1; clear kq; have f2_w_1 := frozAt hb2 (w.heap.size + 1) (by go_size); simp [go_sem, *] at k2_w_1_0 k2_w_1_1 f2_w_1)); (try have l2_w_1 : w.heap.size + 1 < w2.heap.size := by omega); (try clear k1_w_0_0 k1_w_0_1 f1_w_0); (try clear l1_w_0); (try clear k1_w_1_0 k1_w_1_1 f1_w_1); (try clear l1_w_1); (try clear k1_w_0_0 k1_w_0_1 f1_w_0); (try clear l1_w_0); (try clear k1_w_1_0 k1_w_1_1 f1_w_1); (try clear l1_w_1)) | (have _t := tok3; go_at_call 30; (with_reducible refine ((T3 _).out).mono ?_); rintro e w3 ⟨rfl, hb3⟩; clear tok3 _t; have hz3 := hb3.size; (try simp only [World.size_alloc, World.size_setCell, World.size_drew, World.size_drewN'] at hz3); (try (have kq := cellAt hb3 (w.heap.size) (by go_size); have k3_w_0_0 := kq 0; have k3_w_0_1 := kq 1; clear kq; have f3_w_0 := frozAt hb3 (w.heap.size) (by go_size); simp [go_sem, *] at k3_w_0_0 k3_w_0_1 f3_w_0)); (try have l3_w_0 : w.heap.size < w3.heap.size := by omega); (try (have kq := cellAt hb3 (w.heap.size + 1) (by go_size); have k3_w_1_0 := kq 0; have k3_w_1_1 := kq 1; clear kq; have f3_w_1 := frozAt hb3 (w.heap.size + 1) (by go_size); simp [go_sem, *] at k3_w_1_0 k3_w_1_1 f3_w_1)); (try have l3_w_1 : w.heap.size + 1 < w3.heap.size := by omega); (try (have kq := cellAt hb3 (w.heap.size) (by go_size); have k3_w_0_0 := kq 0; have k3_w_0_1 := kq 1; clear kq; have f3_w_0 := frozAt hb3 (w.heap.size) (by go_size); simp [go_sem, *] at k3_w_0_0 k3_w_0_1 f3_w_0)); (try have l3_w_0 : w.heap.size < w3.heap.size := by omega); (try (have kq := cellAt hb3 (w.heap.size + 1) (by go_size); have k3_w_1_0 := kq 0; have k3_w_1_1 := kq 1; clear kq; have f3_w_1 := frozAt hb3 (w.heap.size + 1) (by go_size); simp [go_sem, *] at k3_w_1_0 k3_w_1_1 f3_w_1)); (try have l3_w_1 : w.heap.size + 1 < w3.heap.size := by omega); (try clear k1_w_0_0 k1_w_0_1 f1_w_0); (try clear l1_w_0); (try clear k1_w_1_0 k1_w_1_1 f1_w_1); (try clear l1_w_1); (try clear k1_w_0_0 k1_w_0_1 f1_w_0); (try clear l1_w_0); (try clear k1_w_1_0 k1_w_1_1 f1_w_1); (try clear l1_w_1); (try clear k2_w_0_0 k2_w_0_1 f2_w_0); (try clear l2_w_0); (try clear k2_w_1_0 k2_w_1_1 f2_w_1); (try clear l2_w_1); (try clear k2_w_0_0 k2_w_0_1 f2_w_0); (try clear l2_w_0); (try clear k2_w_1_0 k2_w_1_1 f2_w_1); (try clear l2_w_1)) | (have _t := tok4; go_at_call 30; (with_reducible refine ((T4 _).out).mono ?_); rintro e w4 ⟨rfl, hb4⟩; clear tok4 _t; have hz4 := hb4.size; (try simp only [World.size_alloc, World.size_setCell, World.size_drew, World.size_drewN'] at hz4); (try (have kq := cellAt hb4 (w.heap.size) (by go_size); have k4_w_0_0 := kq 0; have k4_w_0_1 := kq 1; clear kq; have f4_w_0 := frozAt hb4 (w.heap.size) (by go_size); simp [go_sem, *] at k4_w_0_0 k4_w_0_1 f4_w_0)); (try have l4_w_0 : w.heap.size < w4.heap.size := by omega); (try (have kq := cellAt hb4 (w.heap.size + 1) (by go_size); have k4_w_1_0 := kq 0; have k4_w_1_1 := kq 1; clear kq; have f4_w_1 := frozAt hb4 (w.heap.size + 1) (by go_size); simp [go_sem, *] at k4_w_1_0 k4_w_1_1 f4_w_1)); (try have l4_w_1 : w.heap.size + 1 < w4.heap.size := by omega); (try (have kq := cellAt hb4 (w.heap.size) (by go_size); have k4_w_0_0 := kq 0; have k4_w_0_1 := kq 1; clear kq; have f4_w_0 := frozAt hb4 (w.heap.size) (by go_size); simp [go_sem, *] at k4_w_0_0 k4_w_0_1 f4_w_0)); (try have l4_w_0 : w.heap.size < w4.heap.size := by omega); (try (have kq := cellAt hb4 (w.heap.size + 1) (by go_size); have k4_w_1_0 := kq 0; have k4_w_1_1 := kq 1; clear kq; have f4_w_1 := frozAt hb4 (w.heap.size + 1) (by go_size); simp [go_sem, *] at k4_w_1_0 k4_w_1_1 f4_w_1)); (try have l4_w_1 : w.heap.size + 1 < w4.heap.size := by omega); (try clear k1_w_0_0 k1_w_0_1 f1_w_0); (try clear l1_w_0); (try clear k1_w_1_0 k1_w_1_1 f1_w_1); (try clear l1_w_1); (try clear k1_w_0_0 k1_w_0_1 f1_w_0); (try clear l1_w_0); (try clear k1_w_1_0 k1_w_1_1 f1_w_1); (try clear l1_w_1); (try clear k2_w_0_0 k2_w_0_1 f2_w_0); (try clear l2_w_0); (try clear k2_w_1_0 k2_w_1_1 f2_w_1); (try clear l2_w_1); (try clear k2_w_0_0 k2_w_0_1 f2_w_0); (try clear l2_w_0); (try clear k2_w_1_0 k2_w_1_1 f2_w_1); (try clear l2_w_1); (try clear k3_w_0_0 k3_w_0_1 f3_w_0); (try clear l3_w_0); (try clear k3_w_1_0 k3_w_1_1 f3_w_1); (try clear l3_w_1); (try clear k3_w_0_0 k3_w_0_1 f3_w_0); (try clear l3_w_0); (try clear k3_w_1_0 k3_w_1_1 f3_w_1); (try clear l3_w_1)))
      go_ret2
      refine ⟨rfl, ?_⟩
      repeat' first | (with_reducible first | apply zRf | assumption | apply zDn | apply zDr | apply zAl | apply zSt | refine zVi (by assumption) ?_ ?_) | go_size
    · rw [show scB a b nx dx = true by unfold scB; rw [h1, h2]; rfl, ifZ_t]
      have b1 := tcB_bd h1
      have b2 := frB_bd h2
      have sm := fun h0 => sc_mul (nx := nx) (dx := dx) h0 h2
      rw [h1] at T1
      rw [h2] at T2
      clear h1 h2
      by_cases h0 : nx = 0
      · subst h0
        have T3 := fun W : World => Lib.hid (squarefree_any b W b1.2.2.1 (by omega))
        have T4 := T3
        rw [if_pos rfl]
        clear sm
        generalize clV b = c at *
        have tok1 : True := trivial
        have tok2 : True := trivial
        have tok3 : True := trivial
        have tok4 : True := trivial
        go_enter Try.func10, Try.ntmps10
        go_wp2_with (first | (have _t := tok1; go_at_call 38; (with_reducible refine ((T1 _).out).mono ?_); rintro e w1 ⟨rfl, hb1⟩; clear tok1 _t; have hz1 := hb1.size; (try simp only [World.size_alloc, World.size_setCell, World.size_drew, World.size_drewN'] at hz1); (try (have kq := cellAt hb1 (w.heap.size) (by go_size); have k1_w_0_0 := kq 0; have k1_w_0_1 := kq 1; clear kq; have f1_w_0 := frozAt hb1 (w.heap.size) (by go_size); simp [go_sem, *] at k1_w_0_0 k1_w_0_1 f1_w_0)); (try have l1_w_0 : w.heap.size < w1.heap.size := by omega); (try (have kq := cellAt hb1 (w.heap.size + 1) (by go_size); have k1_w_1_0 := kq 0; have k1_w_1_1 := kq 1; clear kq; have f1_w_1 := frozAt hb1 (w.heap.size + 1) (by go_size); simp [go_sem, *] at k1_w_1_0 k1_w_1_1 f1_w_1)); (try have l1_w_1 : w.heap.size + 1 < w1.heap.size := by omega); (try (have kq := cellAt hb1 (w.heap.size) (by go_size); have k1_w_0_0 := kq 0; have k1_w_0_1 := kq 1; clear kq; have f1_w_0 := frozAt hb1 (w.heap.size) (by go_size); simp [go_sem, *] at k1_w_0_0 k1_w_0_1 f1_w_0)); (try have l1_w_0 : w.heap.size < w1.heap.size := by omega); (try (have kq := cellAt hb1 (w.heap.size + 1) (by go_size); have k1_w_1_0 := kq 0; have k1_w_1_1 := kq 1; clear kq; have f1_w_1 := frozAt hb1 (w.heap.size + 1) (by go_size); simp [go_sem, *] at k1_w_1_0 k1_w_1_1 f1_w_1)); (try have l1_w_1 : w.heap.size + 1 < w1.heap.size := by omega)) | (have _t := tok2; go_at_call 39; (with_reducible refine ((T2 _).out).mono ?_); rintro e w2 ⟨rfl, hb2⟩; clear tok2 _t; have hz2 := hb2.size; (try simp only [World.size_alloc, World.size_setCell, World.size_drew, World.size_drewN'] at hz2); (try (have kq := cellAt hb2 (w.heap.size) (by go_size); have k2_w_0_0 := kq 0; have k2_w_0_1 := kq 1; clear kq; have f2_w_0 := frozAt hb2 (w.heap.size) (by go_size); simp [go_sem, *] at k2_w_0_0 k2_w_0_1 f2_w_0)); (try have l2_w_0 : w.heap.size < w2.heap.size := by omega); (try (have kq := cellAt hb2 (w.heap.size + 1) (by go_size); have k2_w_1_0 := kq 0; have k2_w_1_1 := kq 1; clear kq; have f2_w_1 := frozAt hb2 (w.heap.size + 1) (by go_size); simp [go_sem, *] at k2_w_1_0 k2_w_1_1 f2_w_1)); (try have l2_w_1 : w.heap.size + 1 < w2.heap.size := by omega); (try (have kq := cellAt hb2 (w.heap.size) (by go_size); have k2_w_0_0 := kq 0; have k2_w_0_1 := kq 1; clear kq; have f2_w_0 := frozAt hb2 (w.heap.size) (by go_size); simp [go_sem, *] at k2_w_0_0 k2_w_0_1 f2_w_0)); (try have l2_w_0 : w.heap.size < w2.heap.size := by omega); (try (have kq := cellAt hb2 (w.heap.size + 1) (by go_size); have k2_w_1_0 := kq 0; have k2_w_1_1 := kq 1; clear kq; have f2_w_1 := frozAt hb2 (w.heap.size + 1) (by go_size); simp [go_sem, *] at k2_w_1_0 k2_w_1_1 f2_w_1)); (try have l2_w_1 : w.heap.size + 1 < w2.heap.size := by omega); (try clear k1_w_0_0 k1_w_0_1 f1_w_0); (try clear l1_w_0); (try clear k1_w_1_0 k1_w_1_1 f1_w_1); (try clear l1_w_1); (try clear k1_w_0_0 k1_w_0_1 f1_w_0); (try clear l1_w_0); (try clear k1_w_1_0 k1_w_1_1 f1_w_1); (try clear l1_w_1)) | (have _t := tok3; go_at_call 30; (with_reducible refine ((T3 _).out).mono ?_); rintro e w3 ⟨rfl, hb3⟩; clear tok3 _t; have hz3 := hb3.size; (try simp only [World.size_alloc, World.size_setCell, World.size_drew, World.size_drewN'] at hz3); (try (have kq := cellAt hb3 (w.heap.size) (by go_size); have k3_w_0_0 := kq 0; have k3_w_0_1 := kq 1; clear kq; have f3_w_0 := frozAt hb3 (w.heap.size) (by go_size); simp [go_sem, *] at k3_w_0_0 k3_w_0_1 f3_w_0)); (try have l3_w_0 : w.heap.size < w3.heap.size := by omega); (try (have kq := cellAt hb3 (w.heap.size + 1) (by go_size); have k3_w_1_0 := kq 0; have k3_w_1_1 := kq 1; clear kq; have f3_w_1 := frozAt hb3 (w.heap.size + 1) (by go_size); simp [go_sem, *] at k3_w_1_0 k3_w_1_1 f3_w_1)); (try have l3_w_1 : w.heap.size + 1 < w3.heap.size := by omega); (try (have kq := cellAt hb3 (w.heap.size) (by go_size); have k3_w_0_0 := kq 0; have k3_w_0_1 := kq 1; clear kq; have f3_w_0 := frozAt hb3 (w.heap.size) (by go_size); simp [go_sem, *] at k3_w_0_0 k3_w_0_1 f3_w_0)); (try have l3_w_0 : w.heap.size < w3.heap.size := by omega); (try (have kq := cellAt hb3 (w.heap.size + 1) (by go_size); have k3_w_1_0 := kq 0; have k3_w_1_1 := kq 1; clear kq; have f3_w_1 := frozAt hb3 (w.heap.size + 1) (by go_size); simp [go_sem, *] at k3_w_1_0 k3_w_1_1 f3_w_1)); (try have l3_w_1 : w.heap.size + 1 < w3.heap.size := by omega); (try clear k1_w_0_0 k1_w_0_1 f1_w_0); (try clear l1_w_0); (try clear k1_w_1_0 k1_w_1_1 f1_w_1); (try clear l1_w_1); (try clear k1_w_0_0 k1_w_0_1 f1_w_0); (try clear l1_w_0); (try clear k1_w_1_0 k1_w_1_1 f1_w_1); (try clear l1_w_1); (try clear k2_w_0_0 k2_w_0_1 f2_w_0); (try clear l2_w_0); (try clear k2_w_1_0 k2_w_1_1 f2_w_1); (try clear l2_w_1); (try clear k2_w_0_0 k2_w_0_1 f2_w_0); (try clear l2_w_0); (try clear k2_w_1_0 k2_w_1_1 f2_w_1); (try clear l2_w_1)) | (have _t := tok4; go_at_call 30; (with_reducible refine ((T4 _).out).mono ?_); rintro e w4 ⟨rfl, hb4⟩; clear tok4 _t; have hz4 := hb4.size; (try simp only [World.size_alloc, World.size_setCell, World.size_drew, World.size_drewN'] at hz4); (try (have kq := cellAt hb4 (w.heap.size) (by go_size); have k4_w_0_0 := kq 0; have k4_w_0_1 := kq 1; clear kq; have f4_w_0 := frozAt hb4 (w.heap.size) (by go_size); simp [go_sem, *] at k4_w_0_0 k4_w_0_1 f4_w_0)); (try have l4_w_0 : w.heap.size < w4.heap.size := by omega); (try (have kq := cellAt hb4 (w.heap.size + 1) (by go_size); have k4_w_1_0 := kq 0; have k4_w_1_1 := kq 1; clear kq; have f4_w_1 := frozAt hb4 (w.heap.size + 1) (by go_size); simp [go_sem, *] at k4_w_1_0 k4_w_1_1 f4_w_1)); (try have l4_w_1 : w.heap.size + 1 < w4.heap.size := by omega); (try (have kq := cellAt hb4 (w.heap.size) (by go_size); have k4_w_0_0 := kq 0; have k4_w_0_1 := kq 1; clear kq; have f4_w_0 := frozAt hb4 (w.heap.size) (by go_size); simp [go_sem, *] at k4_w_0_0 k4_w_0_1 f4_w_0)); (try have l4_w_0 : w.heap.size < w4.heap.size := by omega); (try (have kq := cellAt hb4 (w.heap.size + 1) (by go_size); have k4_w_1_0 := kq 0; have k4_w_1_1 := kq 1; clear kq; have f4_w_1 := frozAt hb4 (w.heap.size + 1) (by go_size); simp [go_sem, *] at k4_w_1_0 k4_w_1_1 f4_w_1)); (try have l4_w_1 : w.heap.size + 1 < w4.heap.size := by omega); (try clear k1_w_0_0 k1_w_0_1 f1_w_0); (try clear l1_w_0); (try clear k1_w_1_0 k1_w_1_1 f1_w_1); (try clear l1_w_1); (try clear k1_w_0_0 k1_w_0_1 f1_w_0); (try clear l1_w_0); (try clear k1_w_1_0 k1_w_1_1 f1_w_1); (try clear l1_w_1); (try clear k2_w_0_0 k2_w_0_1 f2_w_0); (try clear l2_w_0); (try clear k2_w_1_0 k2_w_1_1 f2_w_1); (try clear l2_w_1); (try clear k2_w_0_0 k2_w_0_1 f2_w_0); (try clear l2_w_0); (try clear k2_w_1_0 k2_w_1_1 f2_w_1); (try clear l2_w_1); (try clear k3_w_0_0 k3_w_0_1 f3_w_0); (try clear l3_w_0); (try clear k3_w_1_0 k3_w_1_1 f3_w_1); (try clear l3_w_1); (try clear k3_w_0_0 k3_w_0_1 f3_w_0); (try clear l3_w_0); (try clear k3_w_1_0 k3_w_1_1 f3_w_1); (try clear l3_w_1)))
        go_ret2
        refine ⟨rfl, ?_⟩
        repeat' first | (with_reducible first | apply zRf | assumption | apply zDn | apply zDr | apply zAl | apply zSt | refine zVi (by assumption) ?_ ?_) | go_size
      · rw [if_neg h0]
        replace sm := sm h0
        have T3 := fun W : World => Lib.hid (squarefree_any nx W h0 (by omega))
        have T4 := fun W : World => Lib.hid (squarefree_any dx W (by omega) (by omega))
        have hz : (nx == 0) = false := by simpa using h0
        generalize clV nx = c at *
        generalize clV dx = d at *
        have tok1 : True := trivial
        have tok2 : True := trivial
        have tok3 : True := trivial
        have tok4 : True := trivial
        go_enter Try.func10, Try.ntmps10
        go_upto_region 5 with (first | (have _t := tok1; go_at_call 38; (with_reducible refine ((T1 _).out).mono ?_); rintro e w1 ⟨rfl, hb1⟩; clear tok1 _t; have hz1 := hb1.size; (try simp only [World.size_alloc, World.size_setCell, World.size_drew, World.size_drewN'] at hz1); (try (have kq := cellAt hb1 (w.heap.size) (by go_size); have k1_w_0_0 := kq 0; have k1_w_0_1 := kq 1; clear kq; have f1_w_0 := frozAt hb1 (w.heap.size) (by go_size); simp [go_sem, *] at k1_w_0_0 k1_w_0_1 f1_w_0)); (try have l1_w_0 : w.heap.size < w1.heap.size := by omega); (try (have kq := cellAt hb1 (w.heap.size + 1) (by go_size); have k1_w_1_0 := kq 0; have k1_w_1_1 := kq 1; clear kq; have f1_w_1 := frozAt hb1 (w.heap.size + 1) (by go_size); simp [go_sem, *] at k1_w_1_0 k1_w_1_1 f1_w_1)); (try have l1_w_1 : w.heap.size + 1 < w1.heap.size := by omega); (try (have kq := cellAt hb1 (w.heap.size) (by go_size); have k1_w_0_0 := kq 0; have k1_w_0_1 := kq 1; clear kq; have f1_w_0 := frozAt hb1 (w.heap.size) (by go_size); simp [go_sem, *] at k1_w_0_0 k1_w_0_1 f1_w_0)); (try have l1_w_0 : w.heap.size < w1.heap.size := by omega); (try (have kq := cellAt hb1 (w.heap.size + 1) (by go_size); have k1_w_1_0 := kq 0; have k1_w_1_1 := kq 1; clear kq; have f1_w_1 := frozAt hb1 (w.heap.size + 1) (by go_size); simp [go_sem, *] at k1_w_1_0 k1_w_1_1 f1_w_1)); (try have l1_w_1 : w.heap.size + 1 < w1.heap.size := by omega)) | (have _t := tok2; go_at_call 39; (with_reducible refine ((T2 _).out).mono ?_); rintro e w2 ⟨rfl, hb2⟩; clear tok2 _t; have hz2 := hb2.size; (try simp only [World.size_alloc, World.size_setCell, World.size_drew, World.size_drewN'] at hz2); (try (have kq := cellAt hb2 (w.heap.size) (by go_size); have k2_w_0_0 := kq 0; have k2_w_0_1 := kq 1; clear kq; have f2_w_0 := frozAt hb2 (w.heap.size) (by go_size); simp [go_sem, *] at k2_w_0_0 k2_w_0_1 f2_w_0)); (try have l2_w_0 : w.heap.size < w2.heap.size := by omega); (try (have kq := cellAt hb2 (w.heap.size + 1) (by go_size); have k2_w_1_0 := kq 0; have k2_w_1_1 := kq 1; clear kq; have f2_w_1 := frozAt hb2 (w.heap.size + 1) (by go_size); simp [go_sem, *] at k2_w_1_0 k2_w_1_1 f2_w_1)); (try have l2_w_1 : w.heap.size + 1 < w2.heap.size := by omega); (try (have kq := cellAt hb2 (w.heap.size) (by go_size); have k2_w_0_0 := kq 0; have k2_w_0_1 := kq 1; clear kq; have f2_w_0 := frozAt hb2 (w.heap.size) (by go_size); simp [go_sem, *] at k2_w_0_0 k2_w_0_1 f2_w_0)); (try have l2_w_0 : w.heap.size < w2.heap.size := by omega); (try (have kq := cellAt hb2 (w.heap.size + 1) (by go_size); have k2_w_1_0 := kq 0; have k2_w_1_1 := kq 1; clear kq; have f2_w_1 := frozAt hb2 (w.heap.size + 1) (by go_size); simp [go_sem, *] at k2_w_1_0 k2_w_1_1 f2_w_1)); (try have l2_w_1 : w.heap.size + 1 < w2.heap.size := by omega); (try clear k1_w_0_0 k1_w_0_1 f1_w_0); (try clear l1_w_0); (try clear k1_w_1_0 k1_w_1_1 f1_w_1); (try clear l1_w_1); (try clear k1_w_0_0 k1_w_0_1 f1_w_0); (try clear l1_w_0); (try clear k1_w_1_0 k1_w_1_1 f1_w_1); (try clear l1_w_1)) | (have _t := tok3; go_at_call 30; (with_reducible refine ((T3 _).out).mono ?_); rintro e w3 ⟨rfl, hb3⟩; clear tok3 _t; have hz3 := hb3.size; (try simp only [World.size_alloc, World.size_setCell, World.size_drew, World.size_drewN'] at hz3); (try (have kq := cellAt hb3 (w.heap.size) (by go_size); have k3_w_0_0 := kq 0; have k3_w_0_1 := kq 1; clear kq; have f3_w_0 := frozAt hb3 (w.heap.size) (by go_size); simp [go_sem, *] at k3_w_0_0 k3_w_0_1 f3_w_0)); (try have l3_w_0 : w.heap.size < w3.heap.size := by omega); (try (have kq := cellAt hb3 (w.heap.size + 1) (by go_size); have k3_w_1_0 := kq 0; have k3_w_1_1 := kq 1; clear kq; have f3_w_1 := frozAt hb3 (w.heap.size + 1) (by go_size); simp [go_sem, *] at k3_w_1_0 k3_w_1_1 f3_w_1)); (try have l3_w_1 : w.heap.size + 1 < w3.heap.size := by omega); (try (have kq := cellAt hb3 (w.heap.size) (by go_size); have k3_w_0_0 := kq 0; have k3_w_0_1 := kq 1; clear kq; have f3_w_0 := frozAt hb3 (w.heap.size) (by go_size); simp [go_sem, *] at k3_w_0_0 k3_w_0_1 f3_w_0)); (try have l3_w_0 : w.heap.size < w3.heap.size := by omega); (try (have kq := cellAt hb3 (w.heap.size + 1) (by go_size); have k3_w_1_0 := kq 0; have k3_w_1_1 := kq 1; clear kq; have f3_w_1 := frozAt hb3 (w.heap.size + 1) (by go_size); simp [go_sem, *] at k3_w_1_0 k3_w_1_1 f3_w_1)); (try have l3_w_1 : w.heap.size + 1 < w3.heap.size := by omega); (try clear k1_w_0_0 k1_w_0_1 f1_w_0); (try clear l1_w_0); (try clear k1_w_1_0 k1_w_1_1 f1_w_1); (try clear l1_w_1); (try clear k1_w_0_0 k1_w_0_1 f1_w_0); (try clear l1_w_0); (try clear k1_w_1_0 k1_w_1_1 f1_w_1); (try clear l1_w_1); (try clear k2_w_0_0 k2_w_0_1 f2_w_0); (try clear l2_w_0); (try clear k2_w_1_0 k2_w_1_1 f2_w_1); (try clear l2_w_1); (try clear k2_w_0_0 k2_w_0_1 f2_w_0); (try clear l2_w_0); (try clear k2_w_1_0 k2_w_1_1 f2_w_1); (try clear l2_w_1)) | (have _t := tok4; go_at_call 30; (with_reducible refine ((T4 _).out).mono ?_); rintro e w4 ⟨rfl, hb4⟩; clear tok4 _t; have hz4 := hb4.size; (try simp only [World.size_alloc, World.size_setCell, World.size_drew, World.size_drewN'] at hz4); (try (have kq := cellAt hb4 (w.heap.size) (by go_size); have k4_w_0_0 := kq 0; have k4_w_0_1 := kq 1; clear kq; have f4_w_0 := frozAt hb4 (w.heap.size) (by go_size); simp [go_sem, *] at k4_w_0_0 k4_w_0_1 f4_w_0)); (try have l4_w_0 : w.heap.size < w4.heap.size := by omega); (try (have kq := cellAt hb4 (w.heap.size + 1) (by go_size); have k4_w_1_0 := kq 0; have k4_w_1_1 := kq 1; clear kq; have f4_w_1 := frozAt hb4 (w.heap.size + 1) (by go_size); simp [go_sem, *] at k4_w_1_0 k4_w_1_1 f4_w_1)); (try have l4_w_1 : w.heap.size + 1 < w4.heap.size := by omega); (try (have kq := cellAt hb4 (w.heap.size) (by go_size); have k4_w_0_0 := kq 0; have k4_w_0_1 := kq 1; clear kq; have f4_w_0 := frozAt hb4 (w.heap.size) (by go_size); simp [go_sem, *] at k4_w_0_0 k4_w_0_1 f4_w_0)); (try have l4_w_0 : w.heap.size < w4.heap.size := by omega); (try (have kq := cellAt hb4 (w.heap.size + 1) (by go_size); have k4_w_1_0 := kq 0; have k4_w_1_1 := kq 1; clear kq; have f4_w_1 := frozAt hb4 (w.heap.size + 1) (by go_size); simp [go_sem, *] at k4_w_1_0 k4_w_1_1 f4_w_1)); (try have l4_w_1 : w.heap.size + 1 < w4.heap.size := by omega); (try clear k1_w_0_0 k1_w_0_1 f1_w_0); (try clear l1_w_0); (try clear k1_w_1_0 k1_w_1_1 f1_w_1); (try clear l1_w_1); (try clear k1_w_0_0 k1_w_0_1 f1_w_0); (try clear l1_w_0); (try clear k1_w_1_0 k1_w_1_1 f1_w_1); (try clear l1_w_1); (try clear k2_w_0_0 k2_w_0_1 f2_w_0); (try clear l2_w_0); (try clear k2_w_1_0 k2_w_1_1 f2_w_1); (try clear l2_w_1); (try clear k2_w_0_0 k2_w_0_1 f2_w_0); (try clear l2_w_0); (try clear k2_w_1_0 k2_w_1_1 f2_w_1); (try clear l2_w_1); (try clear k3_w_0_0 k3_w_0_1 f3_w_0); (try clear l3_w_0); (try clear k3_w_1_0 k3_w_1_1 f3_w_1); (try clear l3_w_1); (try clear k3_w_0_0 k3_w_0_1 f3_w_0); (try clear l3_w_0); (try clear k3_w_1_0 k3_w_1_1 f3_w_1); (try clear l3_w_1)))
        refine wp_drawn' (n := 8) (by kernel_rfl) (by kernel_rfl) (by kernel_rfl) ?_
        apply Exists.intro
        refine ⟨?_, ?_⟩
        · intro W hW
          try (have kx_w_0_0 := fun x => xcell hW (w.heap.size) (by go_size) x 0; simp [go_sem, *] at kx_w_0_0)
          try (have kx_w_0_1 := fun x => xcell hW (w.heap.size) (by go_size) x 1; simp [go_sem, *] at kx_w_0_1)
          try (have kx_w_1_0 := fun x => xcell hW (w.heap.size + 1) (by go_size) x 0; simp [go_sem, *] at kx_w_1_0)
          try (have kx_w_1_1 := fun x => xcell hW (w.heap.size + 1) (by go_size) x 1; simp [go_sem, *] at kx_w_1_1)
          simp only [List.take_succ_cons, List.take_zero]
          repeat (go_big_quiet_step ((first | (go_at_call 38; (with_reducible exact draw_of _ ((T1 _).out))) | (go_at_call 39; (with_reducible exact draw_of _ ((T2 _).out))) | (go_at_call 30; (with_reducible exact draw_of _ ((T3 _).out))) | (go_at_call 30; (with_reducible exact draw_of _ ((T4 _).out))))))
          exact wpQuiet_nil rfl
        intro w9 hb9
        simp only [List.drop_succ_cons, List.drop_zero, Act.put, List.setIfInBounds_toArray, List.set_cons_succ, List.set_cons_zero]
        have hz9 := hb9.size
        (try simp only [World.size_alloc, World.size_setCell, World.size_drew, World.size_drewN'] at hz9)
        (try (have kq := cellAt hb9 (w.heap.size) (by go_size); have k9_w_0_0 := kq 0; have k9_w_0_1 := kq 1; clear kq; have f9_w_0 := frozAt hb9 (w.heap.size) (by go_size); simp [go_sem, *] at k9_w_0_0 k9_w_0_1 f9_w_0))
        (try have l9_w_0 : w.heap.size < w9.heap.size := by omega)
        (try (have kq := cellAt hb9 (w.heap.size + 1) (by go_size); have k9_w_1_0 := kq 0; have k9_w_1_1 := kq 1; clear kq; have f9_w_1 := frozAt hb9 (w.heap.size + 1) (by go_size); simp [go_sem, *] at k9_w_1_0 k9_w_1_1 f9_w_1))
        (try have l9_w_1 : w.heap.size + 1 < w9.heap.size := by omega)
        (try clear k5_w_0_0 k5_w_0_1 f5_w_0)
        (try clear l5_w_0)
        (try clear k5_w_1_0 k5_w_1_1 f5_w_1)
        (try clear l5_w_1)
        (try clear k6_w_0_0 k6_w_0_1 f6_w_0)
        (try clear l6_w_0)
        (try clear k6_w_1_0 k6_w_1_1 f6_w_1)
        (try clear l6_w_1)
        (try clear k7_w_0_0 k7_w_0_1 f7_w_0)
        (try clear l7_w_0)
        (try clear k7_w_1_0 k7_w_1_1 f7_w_1)
        (try clear l7_w_1)
        (try clear k8_w_0_0 k8_w_0_1 f8_w_0)
        (try clear l8_w_0)
        (try clear k8_w_1_0 k8_w_1_1 f8_w_1)
        (try clear l8_w_1)
        go_wp2_with fail
        go_ret2
        refine ⟨rfl, ?_⟩
        repeat' first | (with_reducible first | apply zRf | assumption | apply zDn | apply zDr | apply zAl | apply zSt | refine zVi (by assumption) ?_ ?_) | go_size
theorem sSquareClass_any (a b nx dx : Int) (w : World) : Calls Try.prog 11 #[.agg #[.int .i64 a, .int .i64 b], .agg #[.int .i64 nx, .int .i64 dx]] w fun e w' => e = .returned (.tuple #[.int .i64 (scV a b nx dx), .bool (scB a b nx dx)]) ∧ Below w.heap.size w w' := by
  have T1 := fun W : World => Lib.hid (tcGood_any a b W)
  have T2 := fun W : World => Lib.hid (frGood_any nx dx W)
  unfold scV
  rcases h1 : tcB a b with _ | _
  · rw [show scB a b nx dx = false by unfold scB; rw [h1]; rfl, ifZ_f]
    rw [h1] at T1
    have T3 := T1
    have T4 := T1
    clear h1
    have tok1 : True := trivial
    have tok2 : True := trivial
    have tok3 : True := trivial
    have tok4 : True := trivial
    go_enter Try.func11, Try.ntmps11
    go_wp2_with (first | (have _t := tok1; go_at_call 40; (with_reducible refine ((T1 _).out).mono ?_); rintro e w1 ⟨rfl, hb1⟩; clear tok1 _t; have hz1 := hb1.size; (try simp only [World.size_alloc, World.size_setCell, World.size_drew, World.size_drewN'] at hz1); (try (have kq := cellAt hb1 (w.heap.size) (by go_size); have k1_w_0_0 := kq 0; have k1_w_0_1 := kq 1; clear kq; have f1_w_0 := frozAt hb1 (w.heap.size) (by go_size); simp [go_sem, *] at k1_w_0_0 k1_w_0_1 f1_w_0)); (try have l1_w_0 : w.heap.size < w1.heap.size := by omega); (try (have kq := cellAt hb1 (w.heap.size + 1) (by go_size); have k1_w_1_0 := kq 0; have k1_w_1_1 := kq 1; clear kq; have f1_w_1 := frozAt hb1 (w.heap.size + 1) (by go_size); simp [go_sem, *] at k1_w_1_0 k1_w_1_1 f1_w_1)); (try have l1_w_1 : w.heap.size + 1 < w1.heap.size := by omega); (try (have kq := cellAt hb1 (w.heap.size) (by go_size); have k1_w_0_0 := kq 0; have k1_w_0_1 := kq 1; clear kq; have f1_w_0 := frozAt hb1 (w.heap.size) (by go_size); simp [go_sem, *] at k1_w_0_0 k1_w_0_1 f1_w_0)); (try have l1_w_0 : w.heap.size < w1.heap.size := by omega); (try (have kq := cellAt hb1 (w.heap.size + 1) (by go_size); have k1_w_1_0 := kq 0; have k1_w_1_1 := kq 1; clear kq; have f1_w_1 := frozAt hb1 (w.heap.size + 1) (by go_size); simp [go_sem, *] at k1_w_1_0 k1_w_1_1 f1_w_1)); (try have l1_w_1 : w.heap.size + 1 < w1.heap.size := by omega)) | (have _t := tok2; go_at_call 41; (with_reducible refine ((T2 _).out).mono ?_); rintro e w2 ⟨rfl, hb2⟩; clear tok2 _t; have hz2 := hb2.size; (try simp only [World.size_alloc, World.size_setCell, World.size_drew, World.size_drewN'] at hz2); (try (have kq := cellAt hb2 (w.heap.size) (by go_size); have k2_w_0_0 := kq 0; have k2_w_0_1 := kq 1; clear kq; have f2_w_0 := frozAt hb2 (w.heap.size) (by go_size); simp [go_sem, *] at k2_w_0_0 k2_w_0_1 f2_w_0)); (try have l2_w_0 : w.heap.size < w2.heap.size := by omega); (try (have kq := cellAt hb2 (w.heap.size + 1) (by go_size); have k2_w_1_0 := kq 0; have k2_w_1_1 := kq 1; clear kq; have f2_w_1 := frozAt hb2 (w.heap.size + 1) (by go_size); simp [go_sem, *] at k2_w_1_0 k2_w_1_1 f2_w_1)); (try have l2_w_1 : w.heap.size + 1 < w2.heap.size := by omega); (try (have kq := cellAt hb2 (w.heap.size) (by go_size); have k2_w_0_0 := kq 0; have k2_w_0_1 := kq 1; clear kq; have f2_w_0 := frozAt hb2 (w.heap.size) (by go_size); simp [go_sem, *] at k2_w_0_0 k2_w_0_1 f2_w_0)); (try have l2_w_0 : w.heap.size < w2.heap.size := by omega); (try (have kq := cellAt hb2 (w.heap.size + 1) (by go_size); have k2_w_1_0 := kq 0; have k2_w_1_1 := kq 1; clear kq; have f2_w_1 := frozAt hb2 (w.heap.size + 1) (by go_size); simp [go_sem, *] at k2_w_1_0 k2_w_1_1 f2_w_1)); (try have l2_w_1 : w.heap.size + 1 < w2.heap.size := by omega); (try clear k1_w_0_0 k1_w_0_1 f1_w_0); (try clear l1_w_0); (try clear k1_w_1_0 k1_w_1_1 f1_w_1); (try clear l1_w_1); (try clear k1_w_0_0 k1_w_0_1 f1_w_0); (try clear l1_w_0); (try clear k1_w_1_0 k1_w_1_1 f1_w_1); (try clear l1_w_1)) | (have _t := tok3; go_at_call 32; (with_reducible refine ((T3 _).out).mono ?_); rintro e w3 ⟨rfl, hb3⟩; clear tok3 _t; have hz3 := hb3.size; (try simp only [World.size_alloc, World.size_setCell, World.size_drew, World.size_drewN'] at hz3); (try (have kq := cellAt hb3 (w.heap.size) (by go_size); have k3_w_0_0 := kq 0; have k3_w_0_1 := kq 1; clear kq; have f3_w_0 := frozAt hb3 (w.heap.size) (by go_size); simp [go_sem, *] at k3_w_0_0 k3_w_0_1 f3_w_0)); (try have l3_w_0 : w.heap.size < w3.heap.size := by omega); (try (have kq := cellAt hb3 (w.heap.size + 1) (by go_size); have k3_w_1_0 := kq 0; have k3_w_1_1 := kq 1; clear kq; have f3_w_1 := frozAt hb3 (w.heap.size + 1) (by go_size); simp [go_sem, *] at k3_w_1_0 k3_w_1_1 f3_w_1)); (try have l3_w_1 : w.heap.size + 1 < w3.heap.size := by omega); (try (have kq := cellAt hb3 (w.heap.size) (by go_size); have k3_w_0_0 := kq 0; have k3_w_0_1 := kq 1; clear kq; have f3_w_0 := frozAt hb3 (w.heap.size) (by go_size); simp [go_sem, *] at k3_w_0_0 k3_w_0_1 f3_w_0)); (try have l3_w_0 : w.heap.size < w3.heap.size := by omega); (try (have kq := cellAt hb3 (w.heap.size + 1) (by go_size); have k3_w_1_0 := kq 0; have k3_w_1_1 := kq 1; clear kq; have f3_w_1 := frozAt hb3 (w.heap.size + 1) (by go_size); simp [go_sem, *] at k3_w_1_0 k3_w_1_1 f3_w_1)); (try have l3_w_1 : w.heap.size + 1 < w3.heap.size := by omega); (try clear k1_w_0_0 k1_w_0_1 f1_w_0); (try clear l1_w_0); (try clear k1_w_1_0 k1_w_1_1 f1_w_1); (try clear l1_w_1); (try clear k1_w_0_0 k1_w_0_1 f1_w_0); (try clear l1_w_0); (try clear k1_w_1_0 k1_w_1_1 f1_w_1); (try clear l1_w_1); (try clear k2_w_0_0 k2_w_0_1 f2_w_0); (try clear l2_w_0); (try clear k2_w_1_0 k2_w_1_1 f2_w_1); (try clear l2_w_1); (try clear k2_w_0_0 k2_w_0_1 f2_w_0); (try clear l2_w_0); (try clear k2_w_1_0 k2_w_1_1 f2_w_1); (try clear l2_w_1)) | (have _t := tok4; go_at_call 32; (with_reducible refine ((T4 _).out).mono ?_); rintro e w4 ⟨rfl, hb4⟩; clear tok4 _t; have hz4 := hb4.size; (try simp only [World.size_alloc, World.size_setCell, World.size_drew, World.size_drewN'] at hz4); (try (have kq := cellAt hb4 (w.heap.size) (by go_size); have k4_w_0_0 := kq 0; have k4_w_0_1 := kq 1; clear kq; have f4_w_0 := frozAt hb4 (w.heap.size) (by go_size); simp [go_sem, *] at k4_w_0_0 k4_w_0_1 f4_w_0)); (try have l4_w_0 : w.heap.size < w4.heap.size := by omega); (try (have kq := cellAt hb4 (w.heap.size + 1) (by go_size); have k4_w_1_0 := kq 0; have k4_w_1_1 := kq 1; clear kq; have f4_w_1 := frozAt hb4 (w.heap.size + 1) (by go_size); simp [go_sem, *] at k4_w_1_0 k4_w_1_1 f4_w_1)); (try have l4_w_1 : w.heap.size + 1 < w4.heap.size := by omega); (try (have kq := cellAt hb4 (w.heap.size) (by go_size); have k4_w_0_0 := kq 0; have k4_w_0_1 := kq 1; clear kq; have f4_w_0 := frozAt hb4 (w.heap.size) (by go_size); simp [go_sem, *] at k4_w_0_0 k4_w_0_1 f4_w_0)); (try have l4_w_0 : w.heap.size < w4.heap.size := by omega); (try (have kq := cellAt hb4 (w.heap.size + 1) (by go_size); have k4_w_1_0 := kq 0; have k4_w_1_1 := kq 1; clear kq; have f4_w_1 := frozAt hb4 (w.heap.size + 1) (by go_size); simp [go_sem, *] at k4_w_1_0 k4_w_1_1 f4_w_1)); (try have l4_w_1 : w.heap.size + 1 < w4.heap.size := by omega); (try clear k1_w_0_0 k1_w_0_1 f1_w_0); (try clear l1_w_0); (try clear k1_w_1_0 k1_w_1_1 f1_w_1); (try clear l1_w_1); (try clear k1_w_0_0 k1_w_0_1 f1_w_0); (try clear l1_w_0); (try clear k1_w_1_0 k1_w_1_1 f1_w_1); (try clear l1_w_1); (try clear k2_w_0_0 k2_w_0_1 f2_w_0); (try clear l2_w_0); (try clear k2_w_1_0 k2_w_1_1 f2_w_1); (try clear l2_w_1); (try clear k2_w_0_0 k2_w_0_1 f2_w_0); (try clear l2_w_0); (try clear k2_w_1_0 k2_w_1_1 f2_w_1); (try clear l2_w_1); (try clear k3_w_0_0 k3_w_0_1 f3_w_0); (try clear l3_w_0); (try clear k3_w_1_0 k3_w_1_1 f3_w_1); (try clear l3_w_1); (try clear k3_w_0_0 k3_w_0_1 f3_w_0); (try clear l3_w_0); (try clear k3_w_1_0 k3_w_1_1 f3_w_1); (try clear l3_w_1)))
    go_ret2
    refine ⟨rfl, ?_⟩
    repeat' first | (with_reducible first | apply zRf | assumption | apply zDn | apply zDr | apply zAl | apply zSt | refine zVi (by assumption) ?_ ?_) | go_size
  · rcases h2 : frB nx dx with _ | _
    · rw [show scB a b nx dx = false by unfold scB; rw [h1, h2]; rfl, ifZ_f]
      rw [h1] at T1
      rw [h2] at T2
      have T3 := T1
      have T4 := T1
      clear h1 h2
      have tok1 : True := trivial
      have tok2 : True := trivial
      have tok3 : True := trivial
      have tok4 : True := trivial
      go_enter Try.func11, Try.ntmps11
      go_wp2_with (first | (have _t := tok1; go_at_call 40; (with_reducible refine ((T1 _).out).mono ?_); rintro e w1 ⟨rfl, hb1⟩; clear tok1 _t; have hz1 := hb1.size; (try simp only [World.size_alloc, World.size_setCell, World.size_drew, World.size_drewN'] at hz1); (try (have kq := cellAt hb1 (w.heap.size) (by go_size); have k1_w_0_0 := kq 0; have k1_w_0_1 := kq 1; clear kq; have f1_w_0 := frozAt hb1 (w.heap.size) (by go_size); simp [go_sem, *] at k1_w_0_0 k1_w_0_1 f1_w_0)); (try have l1_w_0 : w.heap.size < w1.heap.size := by omega); (try (have kq := cellAt hb1 (w.heap.size + 1) (by go_size); have k1_w_1_0 := kq 0; have k1_w_1_1 := kq 1; clear kq; have f1_w_1 := frozAt hb1 (w.heap.size + 1) (by go_size); simp [go_sem, *] at k1_w_1_0 k1_w_1_1 f1_w_1)); (try have l1_w_1 : w.heap.size + 1 < w1.heap.size := by omega); (try (have kq := cellAt hb1 (w.heap.size) (by go_size); have k1_w_0_0 := kq 0; have k1_w_0_1 := kq 1; clear kq; have f1_w_0 := frozAt hb1 (w.heap.size) (by go_size); simp [go_sem, *] at k1_w_0_0 k1_w_0_1 f1_w_0)); (try have l1_w_0 : w.heap.size < w1.heap.size := by omega); (try (have kq := cellAt hb1 (w.heap.size + 1) (by go_size); have k1_w_1_0 := kq 0; have k1_w_1_1 := kq 1; clear kq; have f1_w_1 := frozAt hb1 (w.heap.size + 1) (by go_size); simp [go_sem, *] at k1_w_1_0 k1_w_1_1 f1_w_1)); (try have l1_w_1 : w.heap.size + 1 < w1.heap.size := by omega)) | (have _t := tok2; go_at_call 41; (with_reducible refine ((T2 _).out).mono ?_); rintro e w2 ⟨rfl, hb2⟩; clear tok2 _t; have hz2 := hb2.size; (try simp only [World.size_alloc, World.size_setCell, World.size_drew, World.size_drewN'] at hz2); (try (have kq := cellAt hb2 (w.heap.size) (by go_size); have k2_w_0_0 := kq 0; have k2_w_0_1 := kq 1; clear kq; have f2_w_0 := frozAt hb2 (w.heap.size) (by go_size); simp [go_sem, *] at k2_w_0_0 k2_w_0_1 f2_w_0)); (try have l2_w_0 : w.heap.size < w2.heap.size := by omega); (try (have kq := cellAt hb2 (w.heap.size + 1) (by go_size); have k2_w_1_0 := kq 0; have k2_w_1_1 := kq 1; clear kq; have f2_w_1 := frozAt hb2 (w.heap.size + 1) (by go_size); simp [go_sem, *] at k2_w_1_0 k2_w_1_1 f2_w_1)); (try have l2_w_1 : w.heap.size + 1 < w2.heap.size := by omega); (try (have kq := cellAt hb2 (w.heap.size) (by go_size); have k2_w_0_0 := kq 0; have k2_w_0_1 := kq 1; clear kq; have f2_w_0 := frozAt hb2 (w.heap.size) (by go_size); simp [go_sem, *] at k2_w_0_0 k2_w_0_1 f2_w_0)); (try have l2_w_0 : w.heap.size < w2.heap.size := by omega); (try (have kq := cellAt hb2 (w.heap.size + 1) (by go_size); have k2_w_1_0 := kq 0; have k2_w_1_1 := kq 1; clear kq; have f2_w_1 := frozAt hb2 (w.heap.size + 1) (by go_size); simp [go_sem, *] at k2_w_1_0 k2_w_1_1 f2_w_1)); (try have l2_w_1 : w.heap.size + 1 < w2.heap.size := by omega); (try clear k1_w_0_0 k1_w_0_1 f1_w_0); (try clear l1_w_0); (try clear k1_w_1_0 k1_w_1_1 f1_w_1); (try clear l1_w_1); (try clear k1_w_0_0 k1_w_0_1 f1_w_0); (try clear l1_w_0); (try clear k1_w_1_0 k1_w_1_1 f1_w_1); (try clear l1_w_1)) | (have _t := tok3; go_at_call 32; (with_reducible refine ((T3 _).out).mono ?_); rintro e w3 ⟨rfl, hb3⟩; clear tok3 _t; have hz3 := hb3.size; (try simp only [World.size_alloc, World.size_setCell, World.size_drew, World.size_drewN'] at hz3); (try (have kq := cellAt hb3 (w.heap.size) (by go_size); have k3_w_0_0 := kq 0; have k3_w_0_1 := kq 1; clear kq; have f3_w_0 := frozAt hb3 (w.heap.size) (by go_size); simp [go_sem, *] at k3_w_0_0 k3_w_0_1 f3_w_0)); (try have l3_w_0 : w.heap.size < w3.heap.size := by omega); (try (have kq := cellAt hb3 (w.heap.size + 1) (by go_size); have k3_w_1_0 := kq 0; have k3_w_1_1 := kq 1; clear kq; have f3_w_1 := frozAt hb3 (w.heap.size + 1) (by go_size); simp [go_sem, *] at k3_w_1_0 k3_w_1_1 f3_w_1)); (try have l3_w_1 : w.heap.size + 1 < w3.heap.size := by omega); (try (have kq := cellAt hb3 (w.heap.size) (by go_size); have k3_w_0_0 := kq 0; have k3_w_0_1 := kq 1; clear kq; have f3_w_0 := frozAt hb3 (w.heap.size) (by go_size); simp [go_sem, *] at k3_w_0_0 k3_w_0_1 f3_w_0)); (try have l3_w_0 : w.heap.size < w3.heap.size := by omega); (try (have kq := cellAt hb3 (w.heap.size + 1) (by go_size); have k3_w_1_0 := kq 0; have k3_w_1_1 := kq 1; clear kq; have f3_w_1 := frozAt hb3 (w.heap.size + 1) (by go_size); simp [go_sem, *] at k3_w_1_0 k3_w_1_1 f3_w_1)); (try have l3_w_1 : w.heap.size + 1 < w3.heap.size := by omega); (try clear k1_w_0_0 k1_w_0_1 f1_w_0); (try clear l1_w_0); (try clear k1_w_1_0 k1_w_1_1 f1_w_1); (try clear l1_w_1); (try clear k1_w_0_0 k1_w_0_1 f1_w_0); (try clear l1_w_0); (try clear k1_w_1_0 k1_w_1_1 f1_w_1); (try clear l1_w_1); (try clear k2_w_0_0 k2_w_0_1 f2_w_0); (try clear l2_w_0); (try clear k2_w_1_0 k2_w_1_1 f2_w_1); (try clear l2_w_1); (try clear k2_w_0_0 k2_w_0_1 f2_w_0); (try clear l2_w_0); (try clear k2_w_1_0 k2_w_1_1 f2_w_1); (try clear l2_w_1)) | (have _t := tok4; go_at_call 32; (with_reducible refine ((T4 _).out).mono ?_); rintro e w4 ⟨rfl, hb4⟩; clear tok4 _t; have hz4 := hb4.size; (try simp only [World.size_alloc, World.size_setCell, World.size_drew, World.size_drewN'] at hz4); (try (have kq := cellAt hb4 (w.heap.size) (by go_size); have k4_w_0_0 := kq 0; have k4_w_0_1 := kq 1; clear kq; have f4_w_0 := frozAt hb4 (w.heap.size) (by go_size); simp [go_sem, *] at k4_w_0_0 k4_w_0_1 f4_w_0)); (try have l4_w_0 : w.heap.size < w4.heap.size := by omega); (try (have kq := cellAt hb4 (w.heap.size + 1) (by go_size); have k4_w_1_0 := kq 0; have k4_w_1_1 := kq 1; clear kq; have f4_w_1 := frozAt hb4 (w.heap.size + 1) (by go_size); simp [go_sem, *] at k4_w_1_0 k4_w_1_1 f4_w_1)); (try have l4_w_1 : w.heap.size + 1 < w4.heap.size := by omega); (try (have kq := cellAt hb4 (w.heap.size) (by go_size); have k4_w_0_0 := kq 0; have k4_w_0_1 := kq 1; clear kq; have f4_w_0 := frozAt hb4 (w.heap.size) (by go_size); simp [go_sem, *] at k4_w_0_0 k4_w_0_1 f4_w_0)); (try have l4_w_0 : w.heap.size < w4.heap.size := by omega); (try (have kq := cellAt hb4 (w.heap.size + 1) (by go_size); have k4_w_1_0 := kq 0; have k4_w_1_1 := kq 1; clear kq; have f4_w_1 := frozAt hb4 (w.heap.size + 1) (by go_size); simp [go_sem, *] at k4_w_1_0 k4_w_1_1 f4_w_1)); (try have l4_w_1 : w.heap.size + 1 < w4.heap.size := by omega); (try clear k1_w_0_0 k1_w_0_1 f1_w_0); (try clear l1_w_0); (try clear k1_w_1_0 k1_w_1_1 f1_w_1); (try clear l1_w_1); (try clear k1_w_0_0 k1_w_0_1 f1_w_0); (try clear l1_w_0); (try clear k1_w_1_0 k1_w_1_1 f1_w_1); (try clear l1_w_1); (try clear k2_w_0_0 k2_w_0_1 f2_w_0); (try clear l2_w_0); (try clear k2_w_1_0 k2_w_1_1 f2_w_1); (try clear l2_w_1); (try clear k2_w_0_0 k2_w_0_1 f2_w_0); (try clear l2_w_0); (try clear k2_w_1_0 k2_w_1_1 f2_w_1); (try clear l2_w_1); (try clear k3_w_0_0 k3_w_0_1 f3_w_0); (try clear l3_w_0); (try clear k3_w_1_0 k3_w_1_1 f3_w_1); (try clear l3_w_1); (try clear k3_w_0_0 k3_w_0_1 f3_w_0); (try clear l3_w_0); (try clear k3_w_1_0 k3_w_1_1 f3_w_1); (try clear l3_w_1)))
      go_ret2
      refine ⟨rfl, ?_⟩
      repeat' first | (with_reducible first | apply zRf | assumption | apply zDn | apply zDr | apply zAl | apply zSt | refine zVi (by assumption) ?_ ?_) | go_size
    · rw [show scB a b nx dx = true by unfold scB; rw [h1, h2]; rfl, ifZ_t]
      have b1 := tcB_bd h1
      have b2 := frB_bd h2
      have sm := fun h0 => sc_mul (nx := nx) (dx := dx) h0 h2
      rw [h1] at T1
      rw [h2] at T2
      clear h1 h2
      by_cases h0 : nx = 0
      · subst h0
        have T3 := fun W : World => Lib.hid (tcClass_any b W b1.2.2.1 (by omega))
        have T4 := T3
        rw [if_pos rfl]
        clear sm
        generalize clV b = c at *
        have tok1 : True := trivial
        have tok2 : True := trivial
        have tok3 : True := trivial
        have tok4 : True := trivial
        go_enter Try.func11, Try.ntmps11
        go_wp2_with (first | (have _t := tok1; go_at_call 40; (with_reducible refine ((T1 _).out).mono ?_); rintro e w1 ⟨rfl, hb1⟩; clear tok1 _t; have hz1 := hb1.size; (try simp only [World.size_alloc, World.size_setCell, World.size_drew, World.size_drewN'] at hz1); (try (have kq := cellAt hb1 (w.heap.size) (by go_size); have k1_w_0_0 := kq 0; have k1_w_0_1 := kq 1; clear kq; have f1_w_0 := frozAt hb1 (w.heap.size) (by go_size); simp [go_sem, *] at k1_w_0_0 k1_w_0_1 f1_w_0)); (try have l1_w_0 : w.heap.size < w1.heap.size := by omega); (try (have kq := cellAt hb1 (w.heap.size + 1) (by go_size); have k1_w_1_0 := kq 0; have k1_w_1_1 := kq 1; clear kq; have f1_w_1 := frozAt hb1 (w.heap.size + 1) (by go_size); simp [go_sem, *] at k1_w_1_0 k1_w_1_1 f1_w_1)); (try have l1_w_1 : w.heap.size + 1 < w1.heap.size := by omega); (try (have kq := cellAt hb1 (w.heap.size) (by go_size); have k1_w_0_0 := kq 0; have k1_w_0_1 := kq 1; clear kq; have f1_w_0 := frozAt hb1 (w.heap.size) (by go_size); simp [go_sem, *] at k1_w_0_0 k1_w_0_1 f1_w_0)); (try have l1_w_0 : w.heap.size < w1.heap.size := by omega); (try (have kq := cellAt hb1 (w.heap.size + 1) (by go_size); have k1_w_1_0 := kq 0; have k1_w_1_1 := kq 1; clear kq; have f1_w_1 := frozAt hb1 (w.heap.size + 1) (by go_size); simp [go_sem, *] at k1_w_1_0 k1_w_1_1 f1_w_1)); (try have l1_w_1 : w.heap.size + 1 < w1.heap.size := by omega)) | (have _t := tok2; go_at_call 41; (with_reducible refine ((T2 _).out).mono ?_); rintro e w2 ⟨rfl, hb2⟩; clear tok2 _t; have hz2 := hb2.size; (try simp only [World.size_alloc, World.size_setCell, World.size_drew, World.size_drewN'] at hz2); (try (have kq := cellAt hb2 (w.heap.size) (by go_size); have k2_w_0_0 := kq 0; have k2_w_0_1 := kq 1; clear kq; have f2_w_0 := frozAt hb2 (w.heap.size) (by go_size); simp [go_sem, *] at k2_w_0_0 k2_w_0_1 f2_w_0)); (try have l2_w_0 : w.heap.size < w2.heap.size := by omega); (try (have kq := cellAt hb2 (w.heap.size + 1) (by go_size); have k2_w_1_0 := kq 0; have k2_w_1_1 := kq 1; clear kq; have f2_w_1 := frozAt hb2 (w.heap.size + 1) (by go_size); simp [go_sem, *] at k2_w_1_0 k2_w_1_1 f2_w_1)); (try have l2_w_1 : w.heap.size + 1 < w2.heap.size := by omega); (try (have kq := cellAt hb2 (w.heap.size) (by go_size); have k2_w_0_0 := kq 0; have k2_w_0_1 := kq 1; clear kq; have f2_w_0 := frozAt hb2 (w.heap.size) (by go_size); simp [go_sem, *] at k2_w_0_0 k2_w_0_1 f2_w_0)); (try have l2_w_0 : w.heap.size < w2.heap.size := by omega); (try (have kq := cellAt hb2 (w.heap.size + 1) (by go_size); have k2_w_1_0 := kq 0; have k2_w_1_1 := kq 1; clear kq; have f2_w_1 := frozAt hb2 (w.heap.size + 1) (by go_size); simp [go_sem, *] at k2_w_1_0 k2_w_1_1 f2_w_1)); (try have l2_w_1 : w.heap.size + 1 < w2.heap.size := by omega); (try clear k1_w_0_0 k1_w_0_1 f1_w_0); (try clear l1_w_0); (try clear k1_w_1_0 k1_w_1_1 f1_w_1); (try clear l1_w_1); (try clear k1_w_0_0 k1_w_0_1 f1_w_0); (try clear l1_w_0); (try clear k1_w_1_0 k1_w_1_1 f1_w_1); (try clear l1_w_1)) | (have _t := tok3; go_at_call 32; (with_reducible refine ((T3 _).out).mono ?_); rintro e w3 ⟨rfl, hb3⟩; clear tok3 _t; have hz3 := hb3.size; (try simp only [World.size_alloc, World.size_setCell, World.size_drew, World.size_drewN'] at hz3); (try (have kq := cellAt hb3 (w.heap.size) (by go_size); have k3_w_0_0 := kq 0; have k3_w_0_1 := kq 1; clear kq; have f3_w_0 := frozAt hb3 (w.heap.size) (by go_size); simp [go_sem, *] at k3_w_0_0 k3_w_0_1 f3_w_0)); (try have l3_w_0 : w.heap.size < w3.heap.size := by omega); (try (have kq := cellAt hb3 (w.heap.size + 1) (by go_size); have k3_w_1_0 := kq 0; have k3_w_1_1 := kq 1; clear kq; have f3_w_1 := frozAt hb3 (w.heap.size + 1) (by go_size); simp [go_sem, *] at k3_w_1_0 k3_w_1_1 f3_w_1)); (try have l3_w_1 : w.heap.size + 1 < w3.heap.size := by omega); (try (have kq := cellAt hb3 (w.heap.size) (by go_size); have k3_w_0_0 := kq 0; have k3_w_0_1 := kq 1; clear kq; have f3_w_0 := frozAt hb3 (w.heap.size) (by go_size); simp [go_sem, *] at k3_w_0_0 k3_w_0_1 f3_w_0)); (try have l3_w_0 : w.heap.size < w3.heap.size := by omega); (try (have kq := cellAt hb3 (w.heap.size + 1) (by go_size); have k3_w_1_0 := kq 0; have k3_w_1_1 := kq 1; clear kq; have f3_w_1 := frozAt hb3 (w.heap.size + 1) (by go_size); simp [go_sem, *] at k3_w_1_0 k3_w_1_1 f3_w_1)); (try have l3_w_1 : w.heap.size + 1 < w3.heap.size := by omega); (try clear k1_w_0_0 k1_w_0_1 f1_w_0); (try clear l1_w_0); (try clear k1_w_1_0 k1_w_1_1 f1_w_1); (try clear l1_w_1); (try clear k1_w_0_0 k1_w_0_1 f1_w_0); (try clear l1_w_0); (try clear k1_w_1_0 k1_w_1_1 f1_w_1); (try clear l1_w_1); (try clear k2_w_0_0 k2_w_0_1 f2_w_0); (try clear l2_w_0); (try clear k2_w_1_0 k2_w_1_1 f2_w_1); (try clear l2_w_1); (try clear k2_w_0_0 k2_w_0_1 f2_w_0); (try clear l2_w_0); (try clear k2_w_1_0 k2_w_1_1 f2_w_1); (try clear l2_w_1)) | (have _t := tok4; go_at_call 32; (with_reducible refine ((T4 _).out).mono ?_); rintro e w4 ⟨rfl, hb4⟩; clear tok4 _t; have hz4 := hb4.size; (try simp only [World.size_alloc, World.size_setCell, World.size_drew, World.size_drewN'] at hz4); (try (have kq := cellAt hb4 (w.heap.size) (by go_size); have k4_w_0_0 := kq 0; have k4_w_0_1 := kq 1; clear kq; have f4_w_0 := frozAt hb4 (w.heap.size) (by go_size); simp [go_sem, *] at k4_w_0_0 k4_w_0_1 f4_w_0)); (try have l4_w_0 : w.heap.size < w4.heap.size := by omega); (try (have kq := cellAt hb4 (w.heap.size + 1) (by go_size); have k4_w_1_0 := kq 0; have k4_w_1_1 := kq 1; clear kq; have f4_w_1 := frozAt hb4 (w.heap.size + 1) (by go_size); simp [go_sem, *] at k4_w_1_0 k4_w_1_1 f4_w_1)); (try have l4_w_1 : w.heap.size + 1 < w4.heap.size := by omega); (try (have kq := cellAt hb4 (w.heap.size) (by go_size); have k4_w_0_0 := kq 0; have k4_w_0_1 := kq 1; clear kq; have f4_w_0 := frozAt hb4 (w.heap.size) (by go_size); simp [go_sem, *] at k4_w_0_0 k4_w_0_1 f4_w_0)); (try have l4_w_0 : w.heap.size < w4.heap.size := by omega); (try (have kq := cellAt hb4 (w.heap.size + 1) (by go_size); have k4_w_1_0 := kq 0; have k4_w_1_1 := kq 1; clear kq; have f4_w_1 := frozAt hb4 (w.heap.size + 1) (by go_size); simp [go_sem, *] at k4_w_1_0 k4_w_1_1 f4_w_1)); (try have l4_w_1 : w.heap.size + 1 < w4.heap.size := by omega); (try clear k1_w_0_0 k1_w_0_1 f1_w_0); (try clear l1_w_0); (try clear k1_w_1_0 k1_w_1_1 f1_w_1); (try clear l1_w_1); (try clear k1_w_0_0 k1_w_0_1 f1_w_0); (try clear l1_w_0); (try clear k1_w_1_0 k1_w_1_1 f1_w_1); (try clear l1_w_1); (try clear k2_w_0_0 k2_w_0_1 f2_w_0); (try clear l2_w_0); (try clear k2_w_1_0 k2_w_1_1 f2_w_1); (try clear l2_w_1); (try clear k2_w_0_0 k2_w_0_1 f2_w_0); (try clear l2_w_0); (try clear k2_w_1_0 k2_w_1_1 f2_w_1); (try clear l2_w_1); (try clear k3_w_0_0 k3_w_0_1 f3_w_0); (try clear l3_w_0); (try clear k3_w_1_0 k3_w_1_1 f3_w_1); (try clear l3_w_1); (try clear k3_w_0_0 k3_w_0_1 f3_w_0); (try clear l3_w_0); (try clear k3_w_1_0 k3_w_1_1 f3_w_1); (try clear l3_w_1)))
        go_ret2
        refine ⟨rfl, ?_⟩
        repeat' first | (with_reducible first | apply zRf | assumption | apply zDn | apply zDr | apply zAl | apply zSt | refine zVi (by assumption) ?_ ?_) | go_size
      · rw [if_neg h0]
        replace sm := sm h0
        have T3 := fun W : World => Lib.hid (tcClass_any nx W h0 (by omega))
        have T4 := fun W : World => Lib.hid (tcClass_any dx W (by omega) (by omega))
        have hz : (nx == 0) = false := by simpa using h0
        generalize clV nx = c at *
        generalize clV dx = d at *
        have tok1 : True := trivial
        have tok2 : True := trivial
        have tok3 : True := trivial
        have tok4 : True := trivial
        go_enter Try.func11, Try.ntmps11
        go_upto_region 5 with (first | (have _t := tok1; go_at_call 40; (with_reducible refine ((T1 _).out).mono ?_); rintro e w1 ⟨rfl, hb1⟩; clear tok1 _t; have hz1 := hb1.size; (try simp only [World.size_alloc, World.size_setCell, World.size_drew, World.size_drewN'] at hz1); (try (have kq := cellAt hb1 (w.heap.size) (by go_size); have k1_w_0_0 := kq 0; have k1_w_0_1 := kq 1; clear kq; have f1_w_0 := frozAt hb1 (w.heap.size) (by go_size); simp [go_sem, *] at k1_w_0_0 k1_w_0_1 f1_w_0)); (try have l1_w_0 : w.heap.size < w1.heap.size := by omega); (try (have kq := cellAt hb1 (w.heap.size + 1) (by go_size); have k1_w_1_0 := kq 0; have k1_w_1_1 := kq 1; clear kq; have f1_w_1 := frozAt hb1 (w.heap.size + 1) (by go_size); simp [go_sem, *] at k1_w_1_0 k1_w_1_1 f1_w_1)); (try have l1_w_1 : w.heap.size + 1 < w1.heap.size := by omega); (try (have kq := cellAt hb1 (w.heap.size) (by go_size); have k1_w_0_0 := kq 0; have k1_w_0_1 := kq 1; clear kq; have f1_w_0 := frozAt hb1 (w.heap.size) (by go_size); simp [go_sem, *] at k1_w_0_0 k1_w_0_1 f1_w_0)); (try have l1_w_0 : w.heap.size < w1.heap.size := by omega); (try (have kq := cellAt hb1 (w.heap.size + 1) (by go_size); have k1_w_1_0 := kq 0; have k1_w_1_1 := kq 1; clear kq; have f1_w_1 := frozAt hb1 (w.heap.size + 1) (by go_size); simp [go_sem, *] at k1_w_1_0 k1_w_1_1 f1_w_1)); (try have l1_w_1 : w.heap.size + 1 < w1.heap.size := by omega)) | (have _t := tok2; go_at_call 41; (with_reducible refine ((T2 _).out).mono ?_); rintro e w2 ⟨rfl, hb2⟩; clear tok2 _t; have hz2 := hb2.size; (try simp only [World.size_alloc, World.size_setCell, World.size_drew, World.size_drewN'] at hz2); (try (have kq := cellAt hb2 (w.heap.size) (by go_size); have k2_w_0_0 := kq 0; have k2_w_0_1 := kq 1; clear kq; have f2_w_0 := frozAt hb2 (w.heap.size) (by go_size); simp [go_sem, *] at k2_w_0_0 k2_w_0_1 f2_w_0)); (try have l2_w_0 : w.heap.size < w2.heap.size := by omega); (try (have kq := cellAt hb2 (w.heap.size + 1) (by go_size); have k2_w_1_0 := kq 0; have k2_w_1_1 := kq 1; clear kq; have f2_w_1 := frozAt hb2 (w.heap.size + 1) (by go_size); simp [go_sem, *] at k2_w_1_0 k2_w_1_1 f2_w_1)); (try have l2_w_1 : w.heap.size + 1 < w2.heap.size := by omega); (try (have kq := cellAt hb2 (w.heap.size) (by go_size); have k2_w_0_0 := kq 0; have k2_w_0_1 := kq 1; clear kq; have f2_w_0 := frozAt hb2 (w.heap.size) (by go_size); simp [go_sem, *] at k2_w_0_0 k2_w_0_1 f2_w_0)); (try have l2_w_0 : w.heap.size < w2.heap.size := by omega); (try (have kq := cellAt hb2 (w.heap.size + 1) (by go_size); have k2_w_1_0 := kq 0; have k2_w_1_1 := kq 1; clear kq; have f2_w_1 := frozAt hb2 (w.heap.size + 1) (by go_size); simp [go_sem, *] at k2_w_1_0 k2_w_1_1 f2_w_1)); (try have l2_w_1 : w.heap.size + 1 < w2.heap.size := by omega); (try clear k1_w_0_0 k1_w_0_1 f1_w_0); (try clear l1_w_0); (try clear k1_w_1_0 k1_w_1_1 f1_w_1); (try clear l1_w_1); (try clear k1_w_0_0 k1_w_0_1 f1_w_0); (try clear l1_w_0); (try clear k1_w_1_0 k1_w_1_1 f1_w_1); (try clear l1_w_1)) | (have _t := tok3; go_at_call 32; (with_reducible refine ((T3 _).out).mono ?_); rintro e w3 ⟨rfl, hb3⟩; clear tok3 _t; have hz3 := hb3.size; (try simp only [World.size_alloc, World.size_setCell, World.size_drew, World.size_drewN'] at hz3); (try (have kq := cellAt hb3 (w.heap.size) (by go_size); have k3_w_0_0 := kq 0; have k3_w_0_1 := kq 1; clear kq; have f3_w_0 := frozAt hb3 (w.heap.size) (by go_size); simp [go_sem, *] at k3_w_0_0 k3_w_0_1 f3_w_0)); (try have l3_w_0 : w.heap.size < w3.heap.size := by omega); (try (have kq := cellAt hb3 (w.heap.size + 1) (by go_size); have k3_w_1_0 := kq 0; have k3_w_1_1 := kq 1; clear kq; have f3_w_1 := frozAt hb3 (w.heap.size + 1) (by go_size); simp [go_sem, *] at k3_w_1_0 k3_w_1_1 f3_w_1)); (try have l3_w_1 : w.heap.size + 1 < w3.heap.size := by omega); (try (have kq := cellAt hb3 (w.heap.size) (by go_size); have k3_w_0_0 := kq 0; have k3_w_0_1 := kq 1; clear kq; have f3_w_0 := frozAt hb3 (w.heap.size) (by go_size); simp [go_sem, *] at k3_w_0_0 k3_w_0_1 f3_w_0)); (try have l3_w_0 : w.heap.size < w3.heap.size := by omega); (try (have kq := cellAt hb3 (w.heap.size + 1) (by go_size); have k3_w_1_0 := kq 0; have k3_w_1_1 := kq 1; clear kq; have f3_w_1 := frozAt hb3 (w.heap.size + 1) (by go_size); simp [go_sem, *] at k3_w_1_0 k3_w_1_1 f3_w_1)); (try have l3_w_1 : w.heap.size + 1 < w3.heap.size := by omega); (try clear k1_w_0_0 k1_w_0_1 f1_w_0); (try clear l1_w_0); (try clear k1_w_1_0 k1_w_1_1 f1_w_1); (try clear l1_w_1); (try clear k1_w_0_0 k1_w_0_1 f1_w_0); (try clear l1_w_0); (try clear k1_w_1_0 k1_w_1_1 f1_w_1); (try clear l1_w_1); (try clear k2_w_0_0 k2_w_0_1 f2_w_0); (try clear l2_w_0); (try clear k2_w_1_0 k2_w_1_1 f2_w_1); (try clear l2_w_1); (try clear k2_w_0_0 k2_w_0_1 f2_w_0); (try clear l2_w_0); (try clear k2_w_1_0 k2_w_1_1 f2_w_1); (try clear l2_w_1)) | (have _t := tok4; go_at_call 32; (with_reducible refine ((T4 _).out).mono ?_); rintro e w4 ⟨rfl, hb4⟩; clear tok4 _t; have hz4 := hb4.size; (try simp only [World.size_alloc, World.size_setCell, World.size_drew, World.size_drewN'] at hz4); (try (have kq := cellAt hb4 (w.heap.size) (by go_size); have k4_w_0_0 := kq 0; have k4_w_0_1 := kq 1; clear kq; have f4_w_0 := frozAt hb4 (w.heap.size) (by go_size); simp [go_sem, *] at k4_w_0_0 k4_w_0_1 f4_w_0)); (try have l4_w_0 : w.heap.size < w4.heap.size := by omega); (try (have kq := cellAt hb4 (w.heap.size + 1) (by go_size); have k4_w_1_0 := kq 0; have k4_w_1_1 := kq 1; clear kq; have f4_w_1 := frozAt hb4 (w.heap.size + 1) (by go_size); simp [go_sem, *] at k4_w_1_0 k4_w_1_1 f4_w_1)); (try have l4_w_1 : w.heap.size + 1 < w4.heap.size := by omega); (try (have kq := cellAt hb4 (w.heap.size) (by go_size); have k4_w_0_0 := kq 0; have k4_w_0_1 := kq 1; clear kq; have f4_w_0 := frozAt hb4 (w.heap.size) (by go_size); simp [go_sem, *] at k4_w_0_0 k4_w_0_1 f4_w_0)); (try have l4_w_0 : w.heap.size < w4.heap.size := by omega); (try (have kq := cellAt hb4 (w.heap.size + 1) (by go_size); have k4_w_1_0 := kq 0; have k4_w_1_1 := kq 1; clear kq; have f4_w_1 := frozAt hb4 (w.heap.size + 1) (by go_size); simp [go_sem, *] at k4_w_1_0 k4_w_1_1 f4_w_1)); (try have l4_w_1 : w.heap.size + 1 < w4.heap.size := by omega); (try clear k1_w_0_0 k1_w_0_1 f1_w_0); (try clear l1_w_0); (try clear k1_w_1_0 k1_w_1_1 f1_w_1); (try clear l1_w_1); (try clear k1_w_0_0 k1_w_0_1 f1_w_0); (try clear l1_w_0); (try clear k1_w_1_0 k1_w_1_1 f1_w_1); (try clear l1_w_1); (try clear k2_w_0_0 k2_w_0_1 f2_w_0); (try clear l2_w_0); (try clear k2_w_1_0 k2_w_1_1 f2_w_1); (try clear l2_w_1); (try clear k2_w_0_0 k2_w_0_1 f2_w_0); (try clear l2_w_0); (try clear k2_w_1_0 k2_w_1_1 f2_w_1); (try clear l2_w_1); (try clear k3_w_0_0 k3_w_0_1 f3_w_0); (try clear l3_w_0); (try clear k3_w_1_0 k3_w_1_1 f3_w_1); (try clear l3_w_1); (try clear k3_w_0_0 k3_w_0_1 f3_w_0); (try clear l3_w_0); (try clear k3_w_1_0 k3_w_1_1 f3_w_1); (try clear l3_w_1)))
        refine wp_drawn' (n := 8) (by kernel_rfl) (by kernel_rfl) (by kernel_rfl) ?_
        apply Exists.intro
        refine ⟨?_, ?_⟩
        · intro W hW
          try (have kx_w_0_0 := fun x => xcell hW (w.heap.size) (by go_size) x 0; simp [go_sem, *] at kx_w_0_0)
          try (have kx_w_0_1 := fun x => xcell hW (w.heap.size) (by go_size) x 1; simp [go_sem, *] at kx_w_0_1)
          try (have kx_w_1_0 := fun x => xcell hW (w.heap.size + 1) (by go_size) x 0; simp [go_sem, *] at kx_w_1_0)
          try (have kx_w_1_1 := fun x => xcell hW (w.heap.size + 1) (by go_size) x 1; simp [go_sem, *] at kx_w_1_1)
          simp only [List.take_succ_cons, List.take_zero]
          repeat (go_big_quiet_step ((first | (go_at_call 40; (with_reducible exact draw_of _ ((T1 _).out))) | (go_at_call 41; (with_reducible exact draw_of _ ((T2 _).out))) | (go_at_call 32; (with_reducible exact draw_of _ ((T3 _).out))) | (go_at_call 32; (with_reducible exact draw_of _ ((T4 _).out))))))
          exact wpQuiet_nil rfl
        intro w9 hb9
        simp only [List.drop_succ_cons, List.drop_zero, Act.put, List.setIfInBounds_toArray, List.set_cons_succ, List.set_cons_zero]
        have hz9 := hb9.size
        (try simp only [World.size_alloc, World.size_setCell, World.size_drew, World.size_drewN'] at hz9)
        (try (have kq := cellAt hb9 (w.heap.size) (by go_size); have k9_w_0_0 := kq 0; have k9_w_0_1 := kq 1; clear kq; have f9_w_0 := frozAt hb9 (w.heap.size) (by go_size); simp [go_sem, *] at k9_w_0_0 k9_w_0_1 f9_w_0))
        (try have l9_w_0 : w.heap.size < w9.heap.size := by omega)
        (try (have kq := cellAt hb9 (w.heap.size + 1) (by go_size); have k9_w_1_0 := kq 0; have k9_w_1_1 := kq 1; clear kq; have f9_w_1 := frozAt hb9 (w.heap.size + 1) (by go_size); simp [go_sem, *] at k9_w_1_0 k9_w_1_1 f9_w_1))
        (try have l9_w_1 : w.heap.size + 1 < w9.heap.size := by omega)
        (try clear k5_w_0_0 k5_w_0_1 f5_w_0)
        (try clear l5_w_0)
        (try clear k5_w_1_0 k5_w_1_1 f5_w_1)
        (try clear l5_w_1)
        (try clear k6_w_0_0 k6_w_0_1 f6_w_0)
        (try clear l6_w_0)
        (try clear k6_w_1_0 k6_w_1_1 f6_w_1)
        (try clear l6_w_1)
        (try clear k7_w_0_0 k7_w_0_1 f7_w_0)
        (try clear l7_w_0)
        (try clear k7_w_1_0 k7_w_1_1 f7_w_1)
        (try clear l7_w_1)
        (try clear k8_w_0_0 k8_w_0_1 f8_w_0)
        (try clear l8_w_0)
        (try clear k8_w_1_0 k8_w_1_1 f8_w_1)
        (try clear l8_w_1)
        go_wp2_with fail
        go_ret2
        refine ⟨rfl, ?_⟩
        repeat' first | (with_reducible first | apply zRf | assumption | apply zDn | apply zDr | apply zAl | apply zSt | refine zVi (by assumption) ?_ ?_) | go_size
end Go.Proofs.Ytnemnkbcbokafaa
