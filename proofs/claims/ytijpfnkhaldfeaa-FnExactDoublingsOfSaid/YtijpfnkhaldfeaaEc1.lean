/- Curves: validity, discriminants, the bounds of doublings: contracts of both sides. -/
import Derived.Test.YtijpfnkhaldfeaaNum
import Derived.Test.YtijpfnkhaldfeaaDrA
namespace Go.Proofs.Ytijpfnkhaldfeaa
open Go.RowKit
set_option linter.unusedVariables false
set_option maxHeartbeats 1000000
set_option maxRecDepth 20000
set_option linter.unusedSimpArgs false
attribute [local go_sem] openAt openUpon
theorem pB {x y X Y : Int} (hx : 0 ≤ x ∧ x ≤ X) (hy : 0 ≤ y ∧ y ≤ Y) : 0 ≤ x * y ∧ x * y ≤ X * Y := by
  have h := mul_bd (a := x) (b := y) (A := X) (B := Y) (by omega) (by omega)
  have h2 : 0 ≤ x * y := Int.mul_nonneg hx.1 hy.1
  exact ⟨h2, h.2⟩
def coV (a b : Int) : Int := 4 * a * a * a + 27 * b * b
theorem coV_bd {a b : Int} (ha : -1000 ≤ a ∧ a ≤ 1000) (hb : -10000 ≤ b ∧ b ≤ 10000) : -6700000000 ≤ coV a b ∧ coV a b ≤ 6700000000 := by
  have m1 := mul_bd (a := 4 * a) (b := a) (A := 4000) (B := 1000) (by omega) (by omega)
  have m2 := mul_bd (a := 4 * a * a) (b := a) (A := 4000000) (B := 1000) (by omega) (by omega)
  have m3 := mul_bd (a := 27 * b) (b := b) (A := 270000) (B := 10000) (by omega) (by omega)
  unfold coV; omega
def cvB (a b : Int) : Bool := inB a (-1000) 1000 && (inB b (-10000) 10000 && decide (coV a b ≠ 0))
theorem cvB_cases (a b : Int) : (inB a (-1000) 1000 = false ∧ cvB a b = false) ∨ (inB a (-1000) 1000 = true ∧ ((inB b (-10000) 10000 = false ∧ cvB a b = false) ∨ (inB b (-10000) 10000 = true ∧ cvB a b = (coV a b != 0)))) := by
  cases h1 : inB a (-1000) 1000
  · left; simp [cvB, h1]
  · right; refine ⟨rfl, ?_⟩
    cases h2 : inB b (-10000) 10000
    · left; simp [cvB, h2]
    · right; refine ⟨rfl, ?_⟩
      simp [cvB, h1, h2, bne]
      by_cases h : coV a b = 0 <;> simp [h]
theorem cvB_bd {a b : Int} (h : cvB a b = true) : (-1000 ≤ a ∧ a ≤ 1000) ∧ (-10000 ≤ b ∧ b ≤ 10000) ∧ coV a b ≠ 0 := by
  simp [cvB, inB] at h; omega
theorem ecDisc_any (a b : Int) (w : World) (ha : -1000 ≤ a ∧ a ≤ 1000) (hb : -10000 ≤ b ∧ b ≤ 10000) : Calls Try.prog 40 #[.agg #[.int .i64 a, .int .i64 b]] w fun e w' => e = .returned (.int .i64 (coV a b)) ∧ Below w.heap.size w w' := by
  have m1 := mul_bd (a := 4 * a) (b := a) (A := 4000) (B := 1000) (by omega) (by omega)
  have m2 := mul_bd (a := 4 * a * a) (b := a) (A := 4000000) (B := 1000) (by omega) (by omega)
  have m3 := mul_bd (a := 27 * b) (b := b) (A := 270000) (B := 10000) (by omega) (by omega)
  go_enter Try.func40, Try.ntmps40
  go_wp2_with fail
  go_ret
  refine ⟨rfl, ?_⟩
  repeat' first | (with_reducible first | apply zRf | assumption | apply zDn | apply zDr | apply zAl | apply zSt | refine zVi (by assumption) ?_ ?_) | go_size
theorem core_any (a b : Int) (w : World) (ha : -1000 ≤ a ∧ a ≤ 1000) (hb : -10000 ≤ b ∧ b ≤ 10000) : Calls Try.prog 36 #[.agg #[.int .i64 a, .int .i64 b]] w fun e w' => e = .returned (.int .i64 (coV a b)) ∧ Below w.heap.size w w' := by
  have m1 := mul_bd (a := 4 * a) (b := a) (A := 4000) (B := 1000) (by omega) (by omega)
  have m2 := mul_bd (a := 4 * a * a) (b := a) (A := 4000000) (B := 1000) (by omega) (by omega)
  have m3 := mul_bd (a := 27 * b) (b := b) (A := 270000) (B := 10000) (by omega) (by omega)
  go_enter Try.func36, Try.ntmps36
  go_wp2_with fail
  go_ret
  refine ⟨rfl, ?_⟩
  repeat' first | (with_reducible first | apply zRf | assumption | apply zDn | apply zDr | apply zAl | apply zSt | refine zVi (by assumption) ?_ ?_) | go_size
theorem ecGood_any (a b : Int) (w : World) : Calls Try.prog 28 #[.agg #[.int .i64 a, .int .i64 b]] w fun e w' => e = .returned (.bool (cvB a b)) ∧ Below w.heap.size w w' := by
  have T1 := fun W : World => Lib.hid (l1In_any a (-1000) 1000 W)
  have T2 := fun W : World => Lib.hid (l1In_any b (-10000) 10000 W)
  rcases cvB_cases a b with ⟨h1, h⟩ | ⟨h1, ⟨h2, h⟩ | ⟨h2, h⟩⟩
  · rw [h]
    rw [h1] at T1
    have T3 := T1
    clear h h1
    have tok1 : True := trivial
    go_enter Try.func28, Try.ntmps28
    go_wp2_with (first | (go_at_call 16; (with_reducible refine ((T1 _).out).mono ?_); rintro e w' ⟨rfl, rfl⟩) | (go_at_call 16; (with_reducible refine ((T2 _).out).mono ?_); rintro e w' ⟨rfl, rfl⟩) | (have _t := tok1; go_at_call 40; (with_reducible refine ((T3 _).out).mono ?_); rintro e w1 ⟨rfl, hb1⟩; clear tok1 _t; have hz1 := hb1.size; (try simp only [World.size_alloc, World.size_setCell, World.size_drew, World.size_drewN'] at hz1); (try (have kq := cellAt hb1 (w.heap.size) (by go_size); have k1_w_0_0 := kq 0; have k1_w_0_1 := kq 1; clear kq; have f1_w_0 := frozAt hb1 (w.heap.size) (by go_size); simp [go_sem, *] at k1_w_0_0 k1_w_0_1 f1_w_0)); (try have l1_w_0 : w.heap.size < w1.heap.size := by omega)))
    go_ret
    refine ⟨rfl, ?_⟩
    repeat' first | (with_reducible first | apply zRf | assumption | apply zDn | apply zDr | apply zAl | apply zSt | refine zVi (by assumption) ?_ ?_) | go_size
  · rw [h]
    rw [h1] at T1
    rw [h2] at T2
    have T3 := T1
    clear h h1 h2
    have tok1 : True := trivial
    go_enter Try.func28, Try.ntmps28
    go_wp2_with (first | (go_at_call 16; (with_reducible refine ((T1 _).out).mono ?_); rintro e w' ⟨rfl, rfl⟩) | (go_at_call 16; (with_reducible refine ((T2 _).out).mono ?_); rintro e w' ⟨rfl, rfl⟩) | (have _t := tok1; go_at_call 40; (with_reducible refine ((T3 _).out).mono ?_); rintro e w1 ⟨rfl, hb1⟩; clear tok1 _t; have hz1 := hb1.size; (try simp only [World.size_alloc, World.size_setCell, World.size_drew, World.size_drewN'] at hz1); (try (have kq := cellAt hb1 (w.heap.size) (by go_size); have k1_w_0_0 := kq 0; have k1_w_0_1 := kq 1; clear kq; have f1_w_0 := frozAt hb1 (w.heap.size) (by go_size); simp [go_sem, *] at k1_w_0_0 k1_w_0_1 f1_w_0)); (try have l1_w_0 : w.heap.size < w1.heap.size := by omega)))
    go_ret
    refine ⟨rfl, ?_⟩
    repeat' first | (with_reducible first | apply zRf | assumption | apply zDn | apply zDr | apply zAl | apply zSt | refine zVi (by assumption) ?_ ?_) | go_size
  · rw [h]
    have T3 := fun W : World => Lib.hid (ecDisc_any a b W (inB_iff.1 h1) (inB_iff.1 h2))
    rw [h1] at T1
    rw [h2] at T2
    clear h h1 h2
    generalize coV a b = v at *
    have tok1 : True := trivial
    go_enter Try.func28, Try.ntmps28
    go_wp2_with (first | (go_at_call 16; (with_reducible refine ((T1 _).out).mono ?_); rintro e w' ⟨rfl, rfl⟩) | (go_at_call 16; (with_reducible refine ((T2 _).out).mono ?_); rintro e w' ⟨rfl, rfl⟩) | (have _t := tok1; go_at_call 40; (with_reducible refine ((T3 _).out).mono ?_); rintro e w1 ⟨rfl, hb1⟩; clear tok1 _t; have hz1 := hb1.size; (try simp only [World.size_alloc, World.size_setCell, World.size_drew, World.size_drewN'] at hz1); (try (have kq := cellAt hb1 (w.heap.size) (by go_size); have k1_w_0_0 := kq 0; have k1_w_0_1 := kq 1; clear kq; have f1_w_0 := frozAt hb1 (w.heap.size) (by go_size); simp [go_sem, *] at k1_w_0_0 k1_w_0_1 f1_w_0)); (try have l1_w_0 : w.heap.size < w1.heap.size := by omega)))
    go_ret
    refine ⟨rfl, ?_⟩
    repeat' first | (with_reducible first | apply zRf | assumption | apply zDn | apply zDr | apply zAl | apply zSt | refine zVi (by assumption) ?_ ?_) | go_size
theorem isCurve_any (a b : Int) (w : World) : Calls Try.prog 19 #[.agg #[.int .i64 a, .int .i64 b]] w fun e w' => e = .returned (.bool (cvB a b)) ∧ Below w.heap.size w w' := by
  have T1 := fun W : World => Lib.hid (inside_any a (-1000) 1000 W)
  have T2 := fun W : World => Lib.hid (inside_any b (-10000) 10000 W)
  rcases cvB_cases a b with ⟨h1, h⟩ | ⟨h1, ⟨h2, h⟩ | ⟨h2, h⟩⟩
  · rw [h]
    rw [h1] at T1
    have T3 := T1
    clear h h1
    have tok1 : True := trivial
    go_enter Try.func19, Try.ntmps19
    go_wp2_with (first | (go_at_call 21; (with_reducible refine ((T1 _).out).mono ?_); rintro e w' ⟨rfl, rfl⟩) | (go_at_call 21; (with_reducible refine ((T2 _).out).mono ?_); rintro e w' ⟨rfl, rfl⟩) | (have _t := tok1; go_at_call 36; (with_reducible refine ((T3 _).out).mono ?_); rintro e w1 ⟨rfl, hb1⟩; clear tok1 _t; have hz1 := hb1.size; (try simp only [World.size_alloc, World.size_setCell, World.size_drew, World.size_drewN'] at hz1); (try (have kq := cellAt hb1 (w.heap.size) (by go_size); have k1_w_0_0 := kq 0; have k1_w_0_1 := kq 1; clear kq; have f1_w_0 := frozAt hb1 (w.heap.size) (by go_size); simp [go_sem, *] at k1_w_0_0 k1_w_0_1 f1_w_0)); (try have l1_w_0 : w.heap.size < w1.heap.size := by omega)))
    go_ret
    refine ⟨rfl, ?_⟩
    repeat' first | (with_reducible first | apply zRf | assumption | apply zDn | apply zDr | apply zAl | apply zSt | refine zVi (by assumption) ?_ ?_) | go_size
  · rw [h]
    rw [h1] at T1
    rw [h2] at T2
    have T3 := T1
    clear h h1 h2
    have tok1 : True := trivial
    go_enter Try.func19, Try.ntmps19
    go_wp2_with (first | (go_at_call 21; (with_reducible refine ((T1 _).out).mono ?_); rintro e w' ⟨rfl, rfl⟩) | (go_at_call 21; (with_reducible refine ((T2 _).out).mono ?_); rintro e w' ⟨rfl, rfl⟩) | (have _t := tok1; go_at_call 36; (with_reducible refine ((T3 _).out).mono ?_); rintro e w1 ⟨rfl, hb1⟩; clear tok1 _t; have hz1 := hb1.size; (try simp only [World.size_alloc, World.size_setCell, World.size_drew, World.size_drewN'] at hz1); (try (have kq := cellAt hb1 (w.heap.size) (by go_size); have k1_w_0_0 := kq 0; have k1_w_0_1 := kq 1; clear kq; have f1_w_0 := frozAt hb1 (w.heap.size) (by go_size); simp [go_sem, *] at k1_w_0_0 k1_w_0_1 f1_w_0)); (try have l1_w_0 : w.heap.size < w1.heap.size := by omega)))
    go_ret
    refine ⟨rfl, ?_⟩
    repeat' first | (with_reducible first | apply zRf | assumption | apply zDn | apply zDr | apply zAl | apply zSt | refine zVi (by assumption) ?_ ?_) | go_size
  · rw [h]
    have T3 := fun W : World => Lib.hid (core_any a b W (inB_iff.1 h1) (inB_iff.1 h2))
    rw [h1] at T1
    rw [h2] at T2
    clear h h1 h2
    generalize coV a b = v at *
    have tok1 : True := trivial
    go_enter Try.func19, Try.ntmps19
    go_wp2_with (first | (go_at_call 21; (with_reducible refine ((T1 _).out).mono ?_); rintro e w' ⟨rfl, rfl⟩) | (go_at_call 21; (with_reducible refine ((T2 _).out).mono ?_); rintro e w' ⟨rfl, rfl⟩) | (have _t := tok1; go_at_call 36; (with_reducible refine ((T3 _).out).mono ?_); rintro e w1 ⟨rfl, hb1⟩; clear tok1 _t; have hz1 := hb1.size; (try simp only [World.size_alloc, World.size_setCell, World.size_drew, World.size_drewN'] at hz1); (try (have kq := cellAt hb1 (w.heap.size) (by go_size); have k1_w_0_0 := kq 0; have k1_w_0_1 := kq 1; clear kq; have f1_w_0 := frozAt hb1 (w.heap.size) (by go_size); simp [go_sem, *] at k1_w_0_0 k1_w_0_1 f1_w_0)); (try have l1_w_0 : w.heap.size < w1.heap.size := by omega)))
    go_ret
    refine ⟨rfl, ?_⟩
    repeat' first | (with_reducible first | apply zRf | assumption | apply zDn | apply zDr | apply zAl | apply zSt | refine zVi (by assumption) ?_ ?_) | go_size
end Go.Proofs.Ytijpfnkhaldfeaa
