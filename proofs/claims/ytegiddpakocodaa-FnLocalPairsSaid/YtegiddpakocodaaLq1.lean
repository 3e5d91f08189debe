/- Quartics: values, depths, real points: contracts of both sides. -/
import Derived.Test.YtegiddpakocodaaLoPS
import Derived.Test.YtegiddpakocodaaLo6
import Derived.Test.YtegiddpakocodaaDrawn
namespace Go.Proofs.Ytegiddpakocodaa
open Go.RowKit
set_option linter.unusedVariables false
set_option maxHeartbeats 4000000
set_option maxRecDepth 20000
set_option linter.unusedSimpArgs false
def ifZ (o : Bool) (x : Int) : Int := if o = true then x else 0
theorem ifZ_f (x : Int) : ifZ false x = 0 := rfl
theorem ifZ_t (x : Int) : ifZ true x = x := rfl
theorem qv_eq (D A C m e : Int) : (D * m * m + A * e * e) * m * m + C * e * e * e * e = qvV D A C m e := by unfold qvV; grind
theorem qv_eq2 (D A C m e : Int) : D * (m * m) * (m * m) + A * (m * m) * (e * e) + C * (e * e) * (e * e) = qvV D A C m e := rfl
def qvB (D A C m e : Int) : Bool := qaB D A C && (inB m (-1000) 1000 && inB e (-1000) 1000)
theorem qvalue_any (D A C m e : Int) (w : World) (hD : -100000 ≤ D ∧ D ≤ 100000) (hA : -100000 ≤ A ∧ A ≤ 100000) (hC : -100000 ≤ C ∧ C ≤ 100000) (hm : -1000 ≤ m ∧ m ≤ 1000) (he : -1000 ≤ e ∧ e ≤ 1000) :
    Calls Try.prog 45 #[.agg #[.int .i64 D, .int .i64 A, .int .i64 C], .int .i64 m, .int .i64 e] w fun r w' => r = .returned (.int .i64 (qvV D A C m e)) ∧ Below w.heap.size w w' := by
  have m1 := mul_bd (a := D) (b := m) (A := 100000) (B := 1000) (by omega) (by omega)
  have m2 := mul_bd (a := D * m) (b := m) (A := 100000000) (B := 1000) (by omega) (by omega)
  have m3 := mul_bd (a := A) (b := e) (A := 100000) (B := 1000) (by omega) (by omega)
  have m4 := mul_bd (a := A * e) (b := e) (A := 100000000) (B := 1000) (by omega) (by omega)
  have m5 := mul_bd (a := D * m * m + A * e * e) (b := m) (A := 200000000000) (B := 1000) (by omega) (by omega)
  have m6 := mul_bd (a := (D * m * m + A * e * e) * m) (b := m) (A := 200000000000000) (B := 1000) (by omega) (by omega)
  have m7 := mul_bd (a := C) (b := e) (A := 100000) (B := 1000) (by omega) (by omega)
  have m8 := mul_bd (a := C * e) (b := e) (A := 100000000) (B := 1000) (by omega) (by omega)
  have m9 := mul_bd (a := C * e * e) (b := e) (A := 100000000000) (B := 1000) (by omega) (by omega)
  have n1 := mul_bd (a := C * e * e * e) (b := e) (A := 100000000000000) (B := 1000) (by omega) (by omega)
  rw [← qv_eq]
  go_enter Try.func45, Try.ntmps45
  go_wp2
  refine bodyPost_ret (v := _) (by simp [results, Try.results45, go_sem, *]) rfl ⟨rfl, ?_⟩
  repeat' first | (with_reducible first | apply zRf | assumption | apply zDn | apply zDr | apply zAl | apply zSt | refine zVi (by assumption) ?_ ?_) | go_size
theorem loValue_any (D A C m e : Int) (w : World) (hD : -100000 ≤ D ∧ D ≤ 100000) (hA : -100000 ≤ A ∧ A ≤ 100000) (hC : -100000 ≤ C ∧ C ≤ 100000) (hm : -1000 ≤ m ∧ m ≤ 1000) (he : -1000 ≤ e ∧ e ≤ 1000) :
    Calls Try.prog 47 #[.agg #[.int .i64 D, .int .i64 A, .int .i64 C], .int .i64 m, .int .i64 e] w fun r w' => r = .returned (.int .i64 (qvV D A C m e)) ∧ Below w.heap.size w w' := by
  have m1 := mul_bd (a := m) (b := m) (A := 1000) (B := 1000) (by omega) (by omega)
  have m2 := mul_bd (a := e) (b := e) (A := 1000) (B := 1000) (by omega) (by omega)
  have m3 := mul_bd (a := D) (b := m * m) (A := 100000) (B := 1000000) (by omega) (by omega)
  have m4 := mul_bd (a := D * (m * m)) (b := m * m) (A := 100000000000) (B := 1000000) (by omega) (by omega)
  have m5 := mul_bd (a := A) (b := m * m) (A := 100000) (B := 1000000) (by omega) (by omega)
  have m6 := mul_bd (a := A * (m * m)) (b := e * e) (A := 100000000000) (B := 1000000) (by omega) (by omega)
  have m7 := mul_bd (a := C) (b := e * e) (A := 100000) (B := 1000000) (by omega) (by omega)
  have m8 := mul_bd (a := C * (e * e)) (b := e * e) (A := 100000000000) (B := 1000000) (by omega) (by omega)
  rw [← qv_eq2]
  go_enter Try.func47, Try.ntmps47
  go_wp2_with fail
  (try go_quiet (fail))
  (try go_wp2_with fail)
  refine bodyPost_ret (v := _) (by simp [results, Try.results47, go_sem, *]) rfl ⟨rfl, ?_⟩
  repeat' first | (with_reducible first | apply zRf | assumption | apply zDn | apply zDr | apply zAl | apply zSt | refine zVi (by assumption) ?_ ?_) | go_size
theorem QuarticValue_any (D A C m e : Int) (w : World) : Calls Try.prog 13 #[.agg #[.int .i64 D, .int .i64 A, .int .i64 C], .int .i64 m, .int .i64 e] w fun r w' => r = .returned (.tuple #[.int .i64 (ifZ (qvB D A C m e) (qvV D A C m e)), .bool (qvB D A C m e)]) ∧ Below w.heap.size w w' := by
  have T1 := fun W : World => Lib.hid (isQuartic_any D A C W)
  have T2 := fun W : World => Lib.hid (inside_any m (-1000) 1000 W)
  have T3 := fun W : World => Lib.hid (inside_any e (-1000) 1000 W)
  rcases h1 : qaB D A C with _ | _
  · rw [show qvB D A C m e = false by simp [qvB, h1], ifZ_f]
    rw [h1] at T1
    have T4 := T1
    clear h1
    have tok1 : True := trivial
    have tok2 : True := trivial
    have tok3 : True := trivial
    have tok4 : True := trivial
    go_enter Try.func13, Try.ntmps13
    go_wp2_with (first | (have _t := tok1; go_at_call 24; (with_reducible refine ((T1 _).out).mono ?_); rintro e w1 ⟨rfl, hb1⟩; clear tok1 _t; have hz1 := hb1.size; (try simp only [World.size_alloc, World.size_setCell, World.size_drew, World.size_drewN'] at hz1); (try (have kq := cellAt hb1 (w.heap.size) (by go_size); have k1_w_0_0 := kq 0; have k1_w_0_1 := kq 1; have k1_w_0_2 := kq 2; clear kq; have f1_w_0 := frozAt hb1 (w.heap.size) (by go_size); simp [go_sem, *] at k1_w_0_0 k1_w_0_1 k1_w_0_2 f1_w_0)); (try have l1_w_0 : w.heap.size < w1.heap.size := by omega); (try (have kq := cellAt hb1 (w.heap.size) (by go_size); have k1_w_0_0 := kq 0; have k1_w_0_1 := kq 1; have k1_w_0_2 := kq 2; clear kq; have f1_w_0 := frozAt hb1 (w.heap.size) (by go_size); simp [go_sem, *] at k1_w_0_0 k1_w_0_1 k1_w_0_2 f1_w_0)); (try have l1_w_0 : w.heap.size < w1.heap.size := by omega)) | (go_at_call 25; (with_reducible refine ((T2 _).out).mono ?_); rintro e w' ⟨rfl, rfl⟩) | (go_at_call 25; (with_reducible refine ((T3 _).out).mono ?_); rintro e w' ⟨rfl, rfl⟩) | (have _t := tok4; go_at_call 45; (with_reducible refine ((T4 _).out).mono ?_); rintro e w4 ⟨rfl, hb4⟩; clear tok4 _t; have hz4 := hb4.size; (try simp only [World.size_alloc, World.size_setCell, World.size_drew, World.size_drewN'] at hz4); (try (have kq := cellAt hb4 (w.heap.size) (by go_size); have k4_w_0_0 := kq 0; have k4_w_0_1 := kq 1; have k4_w_0_2 := kq 2; clear kq; have f4_w_0 := frozAt hb4 (w.heap.size) (by go_size); simp [go_sem, *] at k4_w_0_0 k4_w_0_1 k4_w_0_2 f4_w_0)); (try have l4_w_0 : w.heap.size < w4.heap.size := by omega); (try (have kq := cellAt hb4 (w.heap.size) (by go_size); have k4_w_0_0 := kq 0; have k4_w_0_1 := kq 1; have k4_w_0_2 := kq 2; clear kq; have f4_w_0 := frozAt hb4 (w.heap.size) (by go_size); simp [go_sem, *] at k4_w_0_0 k4_w_0_1 k4_w_0_2 f4_w_0)); (try have l4_w_0 : w.heap.size < w4.heap.size := by omega); (try clear k1_w_0_0 k1_w_0_1 k1_w_0_2 f1_w_0); (try clear l1_w_0); (try clear k1_w_0_0 k1_w_0_1 k1_w_0_2 f1_w_0); (try clear l1_w_0); (try clear k2_w_0_0 k2_w_0_1 k2_w_0_2 f2_w_0); (try clear l2_w_0); (try clear k2_w_0_0 k2_w_0_1 k2_w_0_2 f2_w_0); (try clear l2_w_0); (try clear k3_w_0_0 k3_w_0_1 k3_w_0_2 f3_w_0); (try clear l3_w_0); (try clear k3_w_0_0 k3_w_0_1 k3_w_0_2 f3_w_0); (try clear l3_w_0)))
    go_ret2
    refine ⟨rfl, ?_⟩
    repeat' first | (with_reducible first | apply zRf | assumption | apply zDn | apply zDr | apply zAl | apply zSt | refine zVi (by assumption) ?_ ?_) | go_size
  · rw [h1] at T1
    rcases h2 : inB m (-1000) 1000 with _ | _
    · rw [show qvB D A C m e = false by simp [qvB, h2], ifZ_f]
      rw [h2] at T2
      have T4 := T1
      clear h1 h2
      have tok1 : True := trivial
      have tok2 : True := trivial
      have tok3 : True := trivial
      have tok4 : True := trivial
      go_enter Try.func13, Try.ntmps13
      go_wp2_with (first | (have _t := tok1; go_at_call 24; (with_reducible refine ((T1 _).out).mono ?_); rintro e w1 ⟨rfl, hb1⟩; clear tok1 _t; have hz1 := hb1.size; (try simp only [World.size_alloc, World.size_setCell, World.size_drew, World.size_drewN'] at hz1); (try (have kq := cellAt hb1 (w.heap.size) (by go_size); have k1_w_0_0 := kq 0; have k1_w_0_1 := kq 1; have k1_w_0_2 := kq 2; clear kq; have f1_w_0 := frozAt hb1 (w.heap.size) (by go_size); simp [go_sem, *] at k1_w_0_0 k1_w_0_1 k1_w_0_2 f1_w_0)); (try have l1_w_0 : w.heap.size < w1.heap.size := by omega); (try (have kq := cellAt hb1 (w.heap.size) (by go_size); have k1_w_0_0 := kq 0; have k1_w_0_1 := kq 1; have k1_w_0_2 := kq 2; clear kq; have f1_w_0 := frozAt hb1 (w.heap.size) (by go_size); simp [go_sem, *] at k1_w_0_0 k1_w_0_1 k1_w_0_2 f1_w_0)); (try have l1_w_0 : w.heap.size < w1.heap.size := by omega)) | (go_at_call 25; (with_reducible refine ((T2 _).out).mono ?_); rintro e w' ⟨rfl, rfl⟩) | (go_at_call 25; (with_reducible refine ((T3 _).out).mono ?_); rintro e w' ⟨rfl, rfl⟩) | (have _t := tok4; go_at_call 45; (with_reducible refine ((T4 _).out).mono ?_); rintro e w4 ⟨rfl, hb4⟩; clear tok4 _t; have hz4 := hb4.size; (try simp only [World.size_alloc, World.size_setCell, World.size_drew, World.size_drewN'] at hz4); (try (have kq := cellAt hb4 (w.heap.size) (by go_size); have k4_w_0_0 := kq 0; have k4_w_0_1 := kq 1; have k4_w_0_2 := kq 2; clear kq; have f4_w_0 := frozAt hb4 (w.heap.size) (by go_size); simp [go_sem, *] at k4_w_0_0 k4_w_0_1 k4_w_0_2 f4_w_0)); (try have l4_w_0 : w.heap.size < w4.heap.size := by omega); (try (have kq := cellAt hb4 (w.heap.size) (by go_size); have k4_w_0_0 := kq 0; have k4_w_0_1 := kq 1; have k4_w_0_2 := kq 2; clear kq; have f4_w_0 := frozAt hb4 (w.heap.size) (by go_size); simp [go_sem, *] at k4_w_0_0 k4_w_0_1 k4_w_0_2 f4_w_0)); (try have l4_w_0 : w.heap.size < w4.heap.size := by omega); (try clear k1_w_0_0 k1_w_0_1 k1_w_0_2 f1_w_0); (try clear l1_w_0); (try clear k1_w_0_0 k1_w_0_1 k1_w_0_2 f1_w_0); (try clear l1_w_0); (try clear k2_w_0_0 k2_w_0_1 k2_w_0_2 f2_w_0); (try clear l2_w_0); (try clear k2_w_0_0 k2_w_0_1 k2_w_0_2 f2_w_0); (try clear l2_w_0); (try clear k3_w_0_0 k3_w_0_1 k3_w_0_2 f3_w_0); (try clear l3_w_0); (try clear k3_w_0_0 k3_w_0_1 k3_w_0_2 f3_w_0); (try clear l3_w_0)))
      go_ret2
      refine ⟨rfl, ?_⟩
      repeat' first | (with_reducible first | apply zRf | assumption | apply zDn | apply zDr | apply zAl | apply zSt | refine zVi (by assumption) ?_ ?_) | go_size
    · rw [h2] at T2
      rcases h3 : inB e (-1000) 1000 with _ | _
      · rw [show qvB D A C m e = false by simp [qvB, h3], ifZ_f]
        rw [h3] at T3
        have T4 := T1
        clear h1 h2 h3
        have tok1 : True := trivial
        have tok2 : True := trivial
        have tok3 : True := trivial
        have tok4 : True := trivial
        go_enter Try.func13, Try.ntmps13
        go_wp2_with (first | (have _t := tok1; go_at_call 24; (with_reducible refine ((T1 _).out).mono ?_); rintro e w1 ⟨rfl, hb1⟩; clear tok1 _t; have hz1 := hb1.size; (try simp only [World.size_alloc, World.size_setCell, World.size_drew, World.size_drewN'] at hz1); (try (have kq := cellAt hb1 (w.heap.size) (by go_size); have k1_w_0_0 := kq 0; have k1_w_0_1 := kq 1; have k1_w_0_2 := kq 2; clear kq; have f1_w_0 := frozAt hb1 (w.heap.size) (by go_size); simp [go_sem, *] at k1_w_0_0 k1_w_0_1 k1_w_0_2 f1_w_0)); (try have l1_w_0 : w.heap.size < w1.heap.size := by omega); (try (have kq := cellAt hb1 (w.heap.size) (by go_size); have k1_w_0_0 := kq 0; have k1_w_0_1 := kq 1; have k1_w_0_2 := kq 2; clear kq; have f1_w_0 := frozAt hb1 (w.heap.size) (by go_size); simp [go_sem, *] at k1_w_0_0 k1_w_0_1 k1_w_0_2 f1_w_0)); (try have l1_w_0 : w.heap.size < w1.heap.size := by omega)) | (go_at_call 25; (with_reducible refine ((T2 _).out).mono ?_); rintro e w' ⟨rfl, rfl⟩) | (go_at_call 25; (with_reducible refine ((T3 _).out).mono ?_); rintro e w' ⟨rfl, rfl⟩) | (have _t := tok4; go_at_call 45; (with_reducible refine ((T4 _).out).mono ?_); rintro e w4 ⟨rfl, hb4⟩; clear tok4 _t; have hz4 := hb4.size; (try simp only [World.size_alloc, World.size_setCell, World.size_drew, World.size_drewN'] at hz4); (try (have kq := cellAt hb4 (w.heap.size) (by go_size); have k4_w_0_0 := kq 0; have k4_w_0_1 := kq 1; have k4_w_0_2 := kq 2; clear kq; have f4_w_0 := frozAt hb4 (w.heap.size) (by go_size); simp [go_sem, *] at k4_w_0_0 k4_w_0_1 k4_w_0_2 f4_w_0)); (try have l4_w_0 : w.heap.size < w4.heap.size := by omega); (try (have kq := cellAt hb4 (w.heap.size) (by go_size); have k4_w_0_0 := kq 0; have k4_w_0_1 := kq 1; have k4_w_0_2 := kq 2; clear kq; have f4_w_0 := frozAt hb4 (w.heap.size) (by go_size); simp [go_sem, *] at k4_w_0_0 k4_w_0_1 k4_w_0_2 f4_w_0)); (try have l4_w_0 : w.heap.size < w4.heap.size := by omega); (try clear k1_w_0_0 k1_w_0_1 k1_w_0_2 f1_w_0); (try clear l1_w_0); (try clear k1_w_0_0 k1_w_0_1 k1_w_0_2 f1_w_0); (try clear l1_w_0); (try clear k2_w_0_0 k2_w_0_1 k2_w_0_2 f2_w_0); (try clear l2_w_0); (try clear k2_w_0_0 k2_w_0_1 k2_w_0_2 f2_w_0); (try clear l2_w_0); (try clear k3_w_0_0 k3_w_0_1 k3_w_0_2 f3_w_0); (try clear l3_w_0); (try clear k3_w_0_0 k3_w_0_1 k3_w_0_2 f3_w_0); (try clear l3_w_0)))
        go_ret2
        refine ⟨rfl, ?_⟩
        repeat' first | (with_reducible first | apply zRf | assumption | apply zDn | apply zDr | apply zAl | apply zSt | refine zVi (by assumption) ?_ ?_) | go_size
      · rw [h3] at T3
        have hb := qaB_bd h1
        have hm := inB_iff.1 h2
        have he := inB_iff.1 h3
        have T4 := fun W : World => Lib.hid (qvalue_any D A C m e W (by omega) (by omega) (by omega) (by omega) (by omega))
        rw [show qvB D A C m e = true by simp [qvB, h1, h2, h3], ifZ_t]
        clear h1 h2 h3
        generalize qvV D A C m e = v at *
        have tok1 : True := trivial
        have tok2 : True := trivial
        have tok3 : True := trivial
        have tok4 : True := trivial
        go_enter Try.func13, Try.ntmps13
        go_wp2_with (first | (have _t := tok1; go_at_call 24; (with_reducible refine ((T1 _).out).mono ?_); rintro e w1 ⟨rfl, hb1⟩; clear tok1 _t; have hz1 := hb1.size; (try simp only [World.size_alloc, World.size_setCell, World.size_drew, World.size_drewN'] at hz1); (try (have kq := cellAt hb1 (w.heap.size) (by go_size); have k1_w_0_0 := kq 0; have k1_w_0_1 := kq 1; have k1_w_0_2 := kq 2; clear kq; have f1_w_0 := frozAt hb1 (w.heap.size) (by go_size); simp [go_sem, *] at k1_w_0_0 k1_w_0_1 k1_w_0_2 f1_w_0)); (try have l1_w_0 : w.heap.size < w1.heap.size := by omega); (try (have kq := cellAt hb1 (w.heap.size) (by go_size); have k1_w_0_0 := kq 0; have k1_w_0_1 := kq 1; have k1_w_0_2 := kq 2; clear kq; have f1_w_0 := frozAt hb1 (w.heap.size) (by go_size); simp [go_sem, *] at k1_w_0_0 k1_w_0_1 k1_w_0_2 f1_w_0)); (try have l1_w_0 : w.heap.size < w1.heap.size := by omega)) | (go_at_call 25; (with_reducible refine ((T2 _).out).mono ?_); rintro e w' ⟨rfl, rfl⟩) | (go_at_call 25; (with_reducible refine ((T3 _).out).mono ?_); rintro e w' ⟨rfl, rfl⟩) | (have _t := tok4; go_at_call 45; (with_reducible refine ((T4 _).out).mono ?_); rintro e w4 ⟨rfl, hb4⟩; clear tok4 _t; have hz4 := hb4.size; (try simp only [World.size_alloc, World.size_setCell, World.size_drew, World.size_drewN'] at hz4); (try (have kq := cellAt hb4 (w.heap.size) (by go_size); have k4_w_0_0 := kq 0; have k4_w_0_1 := kq 1; have k4_w_0_2 := kq 2; clear kq; have f4_w_0 := frozAt hb4 (w.heap.size) (by go_size); simp [go_sem, *] at k4_w_0_0 k4_w_0_1 k4_w_0_2 f4_w_0)); (try have l4_w_0 : w.heap.size < w4.heap.size := by omega); (try (have kq := cellAt hb4 (w.heap.size) (by go_size); have k4_w_0_0 := kq 0; have k4_w_0_1 := kq 1; have k4_w_0_2 := kq 2; clear kq; have f4_w_0 := frozAt hb4 (w.heap.size) (by go_size); simp [go_sem, *] at k4_w_0_0 k4_w_0_1 k4_w_0_2 f4_w_0)); (try have l4_w_0 : w.heap.size < w4.heap.size := by omega); (try clear k1_w_0_0 k1_w_0_1 k1_w_0_2 f1_w_0); (try clear l1_w_0); (try clear k1_w_0_0 k1_w_0_1 k1_w_0_2 f1_w_0); (try clear l1_w_0); (try clear k2_w_0_0 k2_w_0_1 k2_w_0_2 f2_w_0); (try clear l2_w_0); (try clear k2_w_0_0 k2_w_0_1 k2_w_0_2 f2_w_0); (try clear l2_w_0); (try clear k3_w_0_0 k3_w_0_1 k3_w_0_2 f3_w_0); (try clear l3_w_0); (try clear k3_w_0_0 k3_w_0_1 k3_w_0_2 f3_w_0); (try clear l3_w_0)))
        go_ret2
        refine ⟨rfl, ?_⟩
        repeat' first | (with_reducible first | apply zRf | assumption | apply zDn | apply zDr | apply zAl | apply zSt | refine zVi (by assumption) ?_ ?_) | go_size
theorem sQuarticValue_any (D A C m e : Int) (w : World) : Calls Try.prog 14 #[.agg #[.int .i64 D, .int .i64 A, .int .i64 C], .int .i64 m, .int .i64 e] w fun r w' => r = .returned (.tuple #[.int .i64 (ifZ (qvB D A C m e) (qvV D A C m e)), .bool (qvB D A C m e)]) ∧ Below w.heap.size w w' := by
  have T1 := fun W : World => Lib.hid (loGood_any D A C W)
  have T2 := fun W : World => Lib.hid (l1In_any m (-1000) 1000 W)
  have T3 := fun W : World => Lib.hid (l1In_any e (-1000) 1000 W)
  rcases h1 : qaB D A C with _ | _
  · rw [show qvB D A C m e = false by simp [qvB, h1], ifZ_f]
    rw [h1] at T1
    have T4 := T1
    clear h1
    have tok1 : True := trivial
    have tok2 : True := trivial
    have tok3 : True := trivial
    have tok4 : True := trivial
    go_enter Try.func14, Try.ntmps14
    go_wp2_with (first | (have _t := tok1; go_at_call 28; (with_reducible refine ((T1 _).out).mono ?_); rintro e w1 ⟨rfl, hb1⟩; clear tok1 _t; have hz1 := hb1.size; (try simp only [World.size_alloc, World.size_setCell, World.size_drew, World.size_drewN'] at hz1); (try (have kq := cellAt hb1 (w.heap.size) (by go_size); have k1_w_0_0 := kq 0; have k1_w_0_1 := kq 1; have k1_w_0_2 := kq 2; clear kq; have f1_w_0 := frozAt hb1 (w.heap.size) (by go_size); simp [go_sem, *] at k1_w_0_0 k1_w_0_1 k1_w_0_2 f1_w_0)); (try have l1_w_0 : w.heap.size < w1.heap.size := by omega); (try (have kq := cellAt hb1 (w.heap.size) (by go_size); have k1_w_0_0 := kq 0; have k1_w_0_1 := kq 1; have k1_w_0_2 := kq 2; clear kq; have f1_w_0 := frozAt hb1 (w.heap.size) (by go_size); simp [go_sem, *] at k1_w_0_0 k1_w_0_1 k1_w_0_2 f1_w_0)); (try have l1_w_0 : w.heap.size < w1.heap.size := by omega)) | (go_at_call 46; (with_reducible refine ((T2 _).out).mono ?_); rintro e w' ⟨rfl, rfl⟩) | (go_at_call 46; (with_reducible refine ((T3 _).out).mono ?_); rintro e w' ⟨rfl, rfl⟩) | (have _t := tok4; go_at_call 47; (with_reducible refine ((T4 _).out).mono ?_); rintro e w4 ⟨rfl, hb4⟩; clear tok4 _t; have hz4 := hb4.size; (try simp only [World.size_alloc, World.size_setCell, World.size_drew, World.size_drewN'] at hz4); (try (have kq := cellAt hb4 (w.heap.size) (by go_size); have k4_w_0_0 := kq 0; have k4_w_0_1 := kq 1; have k4_w_0_2 := kq 2; clear kq; have f4_w_0 := frozAt hb4 (w.heap.size) (by go_size); simp [go_sem, *] at k4_w_0_0 k4_w_0_1 k4_w_0_2 f4_w_0)); (try have l4_w_0 : w.heap.size < w4.heap.size := by omega); (try (have kq := cellAt hb4 (w.heap.size) (by go_size); have k4_w_0_0 := kq 0; have k4_w_0_1 := kq 1; have k4_w_0_2 := kq 2; clear kq; have f4_w_0 := frozAt hb4 (w.heap.size) (by go_size); simp [go_sem, *] at k4_w_0_0 k4_w_0_1 k4_w_0_2 f4_w_0)); (try have l4_w_0 : w.heap.size < w4.heap.size := by omega); (try clear k1_w_0_0 k1_w_0_1 k1_w_0_2 f1_w_0); (try clear l1_w_0); (try clear k1_w_0_0 k1_w_0_1 k1_w_0_2 f1_w_0); (try clear l1_w_0); (try clear k2_w_0_0 k2_w_0_1 k2_w_0_2 f2_w_0); (try clear l2_w_0); (try clear k2_w_0_0 k2_w_0_1 k2_w_0_2 f2_w_0); (try clear l2_w_0); (try clear k3_w_0_0 k3_w_0_1 k3_w_0_2 f3_w_0); (try clear l3_w_0); (try clear k3_w_0_0 k3_w_0_1 k3_w_0_2 f3_w_0); (try clear l3_w_0)))
    go_ret2
    refine ⟨rfl, ?_⟩
    repeat' first | (with_reducible first | apply zRf | assumption | apply zDn | apply zDr | apply zAl | apply zSt | refine zVi (by assumption) ?_ ?_) | go_size
  · rw [h1] at T1
    rcases h2 : inB m (-1000) 1000 with _ | _
    · rw [show qvB D A C m e = false by simp [qvB, h2], ifZ_f]
      rw [h2] at T2
      have T4 := T1
      clear h1 h2
      have tok1 : True := trivial
      have tok2 : True := trivial
      have tok3 : True := trivial
      have tok4 : True := trivial
      go_enter Try.func14, Try.ntmps14
      go_wp2_with (first | (have _t := tok1; go_at_call 28; (with_reducible refine ((T1 _).out).mono ?_); rintro e w1 ⟨rfl, hb1⟩; clear tok1 _t; have hz1 := hb1.size; (try simp only [World.size_alloc, World.size_setCell, World.size_drew, World.size_drewN'] at hz1); (try (have kq := cellAt hb1 (w.heap.size) (by go_size); have k1_w_0_0 := kq 0; have k1_w_0_1 := kq 1; have k1_w_0_2 := kq 2; clear kq; have f1_w_0 := frozAt hb1 (w.heap.size) (by go_size); simp [go_sem, *] at k1_w_0_0 k1_w_0_1 k1_w_0_2 f1_w_0)); (try have l1_w_0 : w.heap.size < w1.heap.size := by omega); (try (have kq := cellAt hb1 (w.heap.size) (by go_size); have k1_w_0_0 := kq 0; have k1_w_0_1 := kq 1; have k1_w_0_2 := kq 2; clear kq; have f1_w_0 := frozAt hb1 (w.heap.size) (by go_size); simp [go_sem, *] at k1_w_0_0 k1_w_0_1 k1_w_0_2 f1_w_0)); (try have l1_w_0 : w.heap.size < w1.heap.size := by omega)) | (go_at_call 46; (with_reducible refine ((T2 _).out).mono ?_); rintro e w' ⟨rfl, rfl⟩) | (go_at_call 46; (with_reducible refine ((T3 _).out).mono ?_); rintro e w' ⟨rfl, rfl⟩) | (have _t := tok4; go_at_call 47; (with_reducible refine ((T4 _).out).mono ?_); rintro e w4 ⟨rfl, hb4⟩; clear tok4 _t; have hz4 := hb4.size; (try simp only [World.size_alloc, World.size_setCell, World.size_drew, World.size_drewN'] at hz4); (try (have kq := cellAt hb4 (w.heap.size) (by go_size); have k4_w_0_0 := kq 0; have k4_w_0_1 := kq 1; have k4_w_0_2 := kq 2; clear kq; have f4_w_0 := frozAt hb4 (w.heap.size) (by go_size); simp [go_sem, *] at k4_w_0_0 k4_w_0_1 k4_w_0_2 f4_w_0)); (try have l4_w_0 : w.heap.size < w4.heap.size := by omega); (try (have kq := cellAt hb4 (w.heap.size) (by go_size); have k4_w_0_0 := kq 0; have k4_w_0_1 := kq 1; have k4_w_0_2 := kq 2; clear kq; have f4_w_0 := frozAt hb4 (w.heap.size) (by go_size); simp [go_sem, *] at k4_w_0_0 k4_w_0_1 k4_w_0_2 f4_w_0)); (try have l4_w_0 : w.heap.size < w4.heap.size := by omega); (try clear k1_w_0_0 k1_w_0_1 k1_w_0_2 f1_w_0); (try clear l1_w_0); (try clear k1_w_0_0 k1_w_0_1 k1_w_0_2 f1_w_0); (try clear l1_w_0); (try clear k2_w_0_0 k2_w_0_1 k2_w_0_2 f2_w_0); (try clear l2_w_0); (try clear k2_w_0_0 k2_w_0_1 k2_w_0_2 f2_w_0); (try clear l2_w_0); (try clear k3_w_0_0 k3_w_0_1 k3_w_0_2 f3_w_0); (try clear l3_w_0); (try clear k3_w_0_0 k3_w_0_1 k3_w_0_2 f3_w_0); (try clear l3_w_0)))
      go_ret2
      refine ⟨rfl, ?_⟩
      repeat' first | (with_reducible first | apply zRf | assumption | apply zDn | apply zDr | apply zAl | apply zSt | refine zVi (by assumption) ?_ ?_) | go_size
    · rw [h2] at T2
      rcases h3 : inB e (-1000) 1000 with _ | _
      · rw [show qvB D A C m e = false by simp [qvB, h3], ifZ_f]
        rw [h3] at T3
        have T4 := T1
        clear h1 h2 h3
        have tok1 : True := trivial
        have tok2 : True := trivial
        have tok3 : True := trivial
        have tok4 : True := trivial
        go_enter Try.func14, Try.ntmps14
        go_wp2_with (first | (have _t := tok1; go_at_call 28; (with_reducible refine ((T1 _).out).mono ?_); rintro e w1 ⟨rfl, hb1⟩; clear tok1 _t; have hz1 := hb1.size; (try simp only [World.size_alloc, World.size_setCell, World.size_drew, World.size_drewN'] at hz1); (try (have kq := cellAt hb1 (w.heap.size) (by go_size); have k1_w_0_0 := kq 0; have k1_w_0_1 := kq 1; have k1_w_0_2 := kq 2; clear kq; have f1_w_0 := frozAt hb1 (w.heap.size) (by go_size); simp [go_sem, *] at k1_w_0_0 k1_w_0_1 k1_w_0_2 f1_w_0)); (try have l1_w_0 : w.heap.size < w1.heap.size := by omega); (try (have kq := cellAt hb1 (w.heap.size) (by go_size); have k1_w_0_0 := kq 0; have k1_w_0_1 := kq 1; have k1_w_0_2 := kq 2; clear kq; have f1_w_0 := frozAt hb1 (w.heap.size) (by go_size); simp [go_sem, *] at k1_w_0_0 k1_w_0_1 k1_w_0_2 f1_w_0)); (try have l1_w_0 : w.heap.size < w1.heap.size := by omega)) | (go_at_call 46; (with_reducible refine ((T2 _).out).mono ?_); rintro e w' ⟨rfl, rfl⟩) | (go_at_call 46; (with_reducible refine ((T3 _).out).mono ?_); rintro e w' ⟨rfl, rfl⟩) | (have _t := tok4; go_at_call 47; (with_reducible refine ((T4 _).out).mono ?_); rintro e w4 ⟨rfl, hb4⟩; clear tok4 _t; have hz4 := hb4.size; (try simp only [World.size_alloc, World.size_setCell, World.size_drew, World.size_drewN'] at hz4); (try (have kq := cellAt hb4 (w.heap.size) (by go_size); have k4_w_0_0 := kq 0; have k4_w_0_1 := kq 1; have k4_w_0_2 := kq 2; clear kq; have f4_w_0 := frozAt hb4 (w.heap.size) (by go_size); simp [go_sem, *] at k4_w_0_0 k4_w_0_1 k4_w_0_2 f4_w_0)); (try have l4_w_0 : w.heap.size < w4.heap.size := by omega); (try (have kq := cellAt hb4 (w.heap.size) (by go_size); have k4_w_0_0 := kq 0; have k4_w_0_1 := kq 1; have k4_w_0_2 := kq 2; clear kq; have f4_w_0 := frozAt hb4 (w.heap.size) (by go_size); simp [go_sem, *] at k4_w_0_0 k4_w_0_1 k4_w_0_2 f4_w_0)); (try have l4_w_0 : w.heap.size < w4.heap.size := by omega); (try clear k1_w_0_0 k1_w_0_1 k1_w_0_2 f1_w_0); (try clear l1_w_0); (try clear k1_w_0_0 k1_w_0_1 k1_w_0_2 f1_w_0); (try clear l1_w_0); (try clear k2_w_0_0 k2_w_0_1 k2_w_0_2 f2_w_0); (try clear l2_w_0); (try clear k2_w_0_0 k2_w_0_1 k2_w_0_2 f2_w_0); (try clear l2_w_0); (try clear k3_w_0_0 k3_w_0_1 k3_w_0_2 f3_w_0); (try clear l3_w_0); (try clear k3_w_0_0 k3_w_0_1 k3_w_0_2 f3_w_0); (try clear l3_w_0)))
        go_ret2
        refine ⟨rfl, ?_⟩
        repeat' first | (with_reducible first | apply zRf | assumption | apply zDn | apply zDr | apply zAl | apply zSt | refine zVi (by assumption) ?_ ?_) | go_size
      · rw [h3] at T3
        have hb := qaB_bd h1
        have hm := inB_iff.1 h2
        have he := inB_iff.1 h3
        have T4 := fun W : World => Lib.hid (loValue_any D A C m e W (by omega) (by omega) (by omega) (by omega) (by omega))
        rw [show qvB D A C m e = true by simp [qvB, h1, h2, h3], ifZ_t]
        clear h1 h2 h3
        generalize qvV D A C m e = v at *
        have tok1 : True := trivial
        have tok2 : True := trivial
        have tok3 : True := trivial
        have tok4 : True := trivial
        go_enter Try.func14, Try.ntmps14
        go_wp2_with (first | (have _t := tok1; go_at_call 28; (with_reducible refine ((T1 _).out).mono ?_); rintro e w1 ⟨rfl, hb1⟩; clear tok1 _t; have hz1 := hb1.size; (try simp only [World.size_alloc, World.size_setCell, World.size_drew, World.size_drewN'] at hz1); (try (have kq := cellAt hb1 (w.heap.size) (by go_size); have k1_w_0_0 := kq 0; have k1_w_0_1 := kq 1; have k1_w_0_2 := kq 2; clear kq; have f1_w_0 := frozAt hb1 (w.heap.size) (by go_size); simp [go_sem, *] at k1_w_0_0 k1_w_0_1 k1_w_0_2 f1_w_0)); (try have l1_w_0 : w.heap.size < w1.heap.size := by omega); (try (have kq := cellAt hb1 (w.heap.size) (by go_size); have k1_w_0_0 := kq 0; have k1_w_0_1 := kq 1; have k1_w_0_2 := kq 2; clear kq; have f1_w_0 := frozAt hb1 (w.heap.size) (by go_size); simp [go_sem, *] at k1_w_0_0 k1_w_0_1 k1_w_0_2 f1_w_0)); (try have l1_w_0 : w.heap.size < w1.heap.size := by omega)) | (go_at_call 46; (with_reducible refine ((T2 _).out).mono ?_); rintro e w' ⟨rfl, rfl⟩) | (go_at_call 46; (with_reducible refine ((T3 _).out).mono ?_); rintro e w' ⟨rfl, rfl⟩) | (have _t := tok4; go_at_call 47; (with_reducible refine ((T4 _).out).mono ?_); rintro e w4 ⟨rfl, hb4⟩; clear tok4 _t; have hz4 := hb4.size; (try simp only [World.size_alloc, World.size_setCell, World.size_drew, World.size_drewN'] at hz4); (try (have kq := cellAt hb4 (w.heap.size) (by go_size); have k4_w_0_0 := kq 0; have k4_w_0_1 := kq 1; have k4_w_0_2 := kq 2; clear kq; have f4_w_0 := frozAt hb4 (w.heap.size) (by go_size); simp [go_sem, *] at k4_w_0_0 k4_w_0_1 k4_w_0_2 f4_w_0)); (try have l4_w_0 : w.heap.size < w4.heap.size := by omega); (try (have kq := cellAt hb4 (w.heap.size) (by go_size); have k4_w_0_0 := kq 0; have k4_w_0_1 := kq 1; have k4_w_0_2 := kq 2; clear kq; have f4_w_0 := frozAt hb4 (w.heap.size) (by go_size); simp [go_sem, *] at k4_w_0_0 k4_w_0_1 k4_w_0_2 f4_w_0)); (try have l4_w_0 : w.heap.size < w4.heap.size := by omega); (try clear k1_w_0_0 k1_w_0_1 k1_w_0_2 f1_w_0); (try clear l1_w_0); (try clear k1_w_0_0 k1_w_0_1 k1_w_0_2 f1_w_0); (try clear l1_w_0); (try clear k2_w_0_0 k2_w_0_1 k2_w_0_2 f2_w_0); (try clear l2_w_0); (try clear k2_w_0_0 k2_w_0_1 k2_w_0_2 f2_w_0); (try clear l2_w_0); (try clear k3_w_0_0 k3_w_0_1 k3_w_0_2 f3_w_0); (try clear l3_w_0); (try clear k3_w_0_0 k3_w_0_1 k3_w_0_2 f3_w_0); (try clear l3_w_0)))
        go_ret2
        refine ⟨rfl, ?_⟩
        repeat' first | (with_reducible first | apply zRf | assumption | apply zDn | apply zDr | apply zAl | apply zSt | refine zVi (by assumption) ?_ ?_) | go_size
theorem DepthFor_any (p : Int) (w : World) : Calls Try.prog 18 #[.int .i64 p] w fun r w' => r = .returned (.tuple #[.int .i64 (ifZ (mdPB p) (dp p : Nat)), .bool (mdPB p)]) ∧ Below w.heap.size w w' := by
  have T2 := fun W : World => Lib.hid (inside_any p 2 997 W)
  cases h2 : inB p 2 997
  · rw [show mdPB p = false by simp [mdPB, h2], ifZ_f]
    rw [h2] at T2
    have T3 := T2; have T4 := T2
    clear h2
    have tok1 : True := trivial
    have tok2 : True := trivial
    have tok3 : True := trivial
    have tok4 : True := trivial
    go_enter Try.func18, Try.ntmps18
    go_wp2_with (first | (go_at_call 25; (with_reducible refine ((T2 _).out).mono ?_); rintro e w' ⟨rfl, rfl⟩) | (go_at_call 26; (with_reducible refine ((T3 _).out).mono ?_); rintro e w' ⟨rfl, rfl⟩) | (go_at_call 39; (with_reducible refine ((T4 _).out).mono ?_); rintro e w' ⟨rfl, rfl⟩))
    go_ret2
    refine ⟨rfl, ?_⟩
    repeat' first | (with_reducible first | apply zRf | assumption | apply zDn | apply zDr | apply zAl | apply zSt | refine zVi (by assumption) ?_ ?_) | go_size
  · rw [h2] at T2
    have pb := inB_iff.1 h2
    have T3 := fun W : World => Lib.hid (isPrime_any p W pb.1 (by omega))
    have T4 := fun W : World => Lib.hid (depth_any p W pb.1 (by omega))
    rcases h3 : primeB p with _ | _
    · rw [show mdPB p = false by simp [mdPB, h3], ifZ_f]
      rw [h3] at T3
      clear h2 h3
      generalize ((dp p : Nat) : Int) = dd at *
      have tok1 : True := trivial
      have tok2 : True := trivial
      have tok3 : True := trivial
      have tok4 : True := trivial
      go_enter Try.func18, Try.ntmps18
      go_wp2_with (first | (go_at_call 25; (with_reducible refine ((T2 _).out).mono ?_); rintro e w' ⟨rfl, rfl⟩) | (go_at_call 26; (with_reducible refine ((T3 _).out).mono ?_); rintro e w' ⟨rfl, rfl⟩) | (go_at_call 39; (with_reducible refine ((T4 _).out).mono ?_); rintro e w' ⟨rfl, rfl⟩))
      go_ret2
      refine ⟨rfl, ?_⟩
      repeat' first | (with_reducible first | apply zRf | assumption | apply zDn | apply zDr | apply zAl | apply zSt | refine zVi (by assumption) ?_ ?_) | go_size
    · rw [show mdPB p = true by simp [mdPB, h2, h3], ifZ_t]
      rw [h3] at T3
      clear h2 h3
      generalize ((dp p : Nat) : Int) = dd at *
      have tok1 : True := trivial
      have tok2 : True := trivial
      have tok3 : True := trivial
      have tok4 : True := trivial
      go_enter Try.func18, Try.ntmps18
      go_wp2_with (first | (go_at_call 25; (with_reducible refine ((T2 _).out).mono ?_); rintro e w' ⟨rfl, rfl⟩) | (go_at_call 26; (with_reducible refine ((T3 _).out).mono ?_); rintro e w' ⟨rfl, rfl⟩) | (go_at_call 39; (with_reducible refine ((T4 _).out).mono ?_); rintro e w' ⟨rfl, rfl⟩))
      go_ret2
      refine ⟨rfl, ?_⟩
      repeat' first | (with_reducible first | apply zRf | assumption | apply zDn | apply zDr | apply zAl | apply zSt | refine zVi (by assumption) ?_ ?_) | go_size
theorem sDepthFor_any (p : Int) (w : World) : Calls Try.prog 19 #[.int .i64 p] w fun r w' => r = .returned (.tuple #[.int .i64 (ifZ (mdPB p) (dp p : Nat)), .bool (mdPB p)]) ∧ Below w.heap.size w w' := by
  have T2 := fun W : World => Lib.hid (mdPrime_any p W)
  rcases h2 : mdPB p with _ | _
  · rw [ifZ_f]
    rw [h2] at T2
    have T4 := T2
    clear h2
    have tok1 : True := trivial
    have tok2 : True := trivial
    have tok3 : True := trivial
    have tok4 : True := trivial
    go_enter Try.func19, Try.ntmps19
    go_wp2_with (first | (go_at_call 29; (with_reducible refine ((T2 _).out).mono ?_); rintro e w' ⟨rfl, rfl⟩) | (go_at_call 51; (with_reducible refine ((T4 _).out).mono ?_); rintro e w' ⟨rfl, rfl⟩))
    go_ret2
    refine ⟨rfl, ?_⟩
    repeat' first | (with_reducible first | apply zRf | assumption | apply zDn | apply zDr | apply zAl | apply zSt | refine zVi (by assumption) ?_ ?_) | go_size
  · rw [ifZ_t]
    rw [h2] at T2
    have pb : 2 ≤ p ∧ p ≤ 997 := by simp only [mdPB, Bool.and_eq_true] at h2; exact inB_iff.1 h2.1
    have T4 := fun W : World => Lib.hid (loDepth_any p W pb.1 (by omega))
    clear h2
    generalize ((dp p : Nat) : Int) = dd at *
    have tok1 : True := trivial
    have tok2 : True := trivial
    have tok3 : True := trivial
    have tok4 : True := trivial
    go_enter Try.func19, Try.ntmps19
    go_wp2_with (first | (go_at_call 29; (with_reducible refine ((T2 _).out).mono ?_); rintro e w' ⟨rfl, rfl⟩) | (go_at_call 51; (with_reducible refine ((T4 _).out).mono ?_); rintro e w' ⟨rfl, rfl⟩))
    go_ret2
    refine ⟨rfl, ?_⟩
    repeat' first | (with_reducible first | apply zRf | assumption | apply zDn | apply zDr | apply zAl | apply zSt | refine zVi (by assumption) ?_ ?_) | go_size
end Go.Proofs.Ytegiddpakocodaa
