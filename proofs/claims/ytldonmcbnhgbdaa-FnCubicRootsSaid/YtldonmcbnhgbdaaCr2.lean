/- FnCubicRoots: discriminants, counts and cells: contracts of both sides. -/
import Derived.Test.YtldonmcbnhgbdaaCrP
import Derived.Test.YtldonmcbnhgbdaaCu2
import Derived.Test.YtldonmcbnhgbdaaMk
namespace Go.Proofs.Ytldonmcbnhgbdaa
open Go.RowKit
set_option linter.unusedVariables false
set_option maxHeartbeats 4000000
set_option maxRecDepth 20000
set_option linter.unusedSimpArgs false

def itZ (o : Bool) (x : Int) : Int := if o = true then x else 0
theorem itZ_f (x : Int) : itZ false x = 0 := rfl
theorem itZ_t (x : Int) : itZ true x = x := rfl
theorem dc_eq (a b c d : Int) : b * b * c * c - 4 * a * c * c * c - 4 * b * b * b * d - 27 * a * a * d * d + 18 * a * b * c * d = dcV a b c d := rfl
theorem dc_bds {a b c d : Int} (ha : -1000 ≤ a ∧ a ≤ 1000) (hb : -1000 ≤ b ∧ b ≤ 1000) (hc : -1000 ≤ c ∧ c ≤ 1000) (hd : -1000 ≤ d ∧ d ≤ 1000) : True := trivial
theorem discriminant_any (a b c d : Int) (w : World) (ha : -1000 ≤ a ∧ a ≤ 1000) (hb : -1000 ≤ b ∧ b ≤ 1000) (hc : -1000 ≤ c ∧ c ≤ 1000) (hd : -1000 ≤ d ∧ d ≤ 1000) :
    Calls Try.prog 35 #[.agg #[.int .i64 a, .int .i64 b, .int .i64 c, .int .i64 d]] w fun r w' => r = .returned (.int .i64 (dcV a b c d)) ∧ Below w.heap.size w w' := by
  have p1 := mul_bd (a := b) (b := b) (A := 1000) (B := 1000) (by omega) (by omega)
  have p2 := mul_bd (a := b * b) (b := c) (A := 1000000) (B := 1000) (by omega) (by omega)
  have p3 := mul_bd (a := b * b * c) (b := c) (A := 1000000000) (B := 1000) (by omega) (by omega)
  have p4 := mul_bd (a := 4 * a) (b := c) (A := 4000) (B := 1000) (by omega) (by omega)
  have p5 := mul_bd (a := 4 * a * c) (b := c) (A := 4000000) (B := 1000) (by omega) (by omega)
  have p6 := mul_bd (a := 4 * a * c * c) (b := c) (A := 4000000000) (B := 1000) (by omega) (by omega)
  have p7 := mul_bd (a := 4 * b) (b := b) (A := 4000) (B := 1000) (by omega) (by omega)
  have p8 := mul_bd (a := 4 * b * b) (b := b) (A := 4000000) (B := 1000) (by omega) (by omega)
  have p9 := mul_bd (a := 4 * b * b * b) (b := d) (A := 4000000000) (B := 1000) (by omega) (by omega)
  have q1 := mul_bd (a := 27 * a) (b := a) (A := 27000) (B := 1000) (by omega) (by omega)
  have q2 := mul_bd (a := 27 * a * a) (b := d) (A := 27000000) (B := 1000) (by omega) (by omega)
  have q3 := mul_bd (a := 27 * a * a * d) (b := d) (A := 27000000000) (B := 1000) (by omega) (by omega)
  have q4 := mul_bd (a := 18 * a) (b := b) (A := 18000) (B := 1000) (by omega) (by omega)
  have q5 := mul_bd (a := 18 * a * b) (b := c) (A := 18000000) (B := 1000) (by omega) (by omega)
  have q6 := mul_bd (a := 18 * a * b * c) (b := d) (A := 18000000000) (B := 1000) (by omega) (by omega)
  rw [← dc_eq]
  go_enter Try.func35, Try.ntmps35
  go_wp2_with fail
  go_quiet (fail)
  go_wp2_with fail
  refine bodyPost_ret (v := _) (by simp [results, Try.results35, go_sem, *]) rfl ⟨rfl, ?_⟩
  repeat' first | (with_reducible first | apply zRf | assumption | apply zDn | apply zDr | apply zAl | apply zSt | refine zVi (by assumption) ?_ ?_) | go_size
theorem cuDisc_any (a b c d : Int) (w : World) (ha : -1000 ≤ a ∧ a ≤ 1000) (hb : -1000 ≤ b ∧ b ≤ 1000) (hc : -1000 ≤ c ∧ c ≤ 1000) (hd : -1000 ≤ d ∧ d ≤ 1000) :
    Calls Try.prog 37 #[.agg #[.int .i64 a, .int .i64 b, .int .i64 c, .int .i64 d]] w fun r w' => r = .returned (.int .i64 (dcV a b c d)) ∧ Below w.heap.size w w' := by
  have p1 := mul_bd (a := b) (b := b) (A := 1000) (B := 1000) (by omega) (by omega)
  have p2 := mul_bd (a := b * b) (b := c) (A := 1000000) (B := 1000) (by omega) (by omega)
  have p3 := mul_bd (a := b * b * c) (b := c) (A := 1000000000) (B := 1000) (by omega) (by omega)
  have p4 := mul_bd (a := 4 * a) (b := c) (A := 4000) (B := 1000) (by omega) (by omega)
  have p5 := mul_bd (a := 4 * a * c) (b := c) (A := 4000000) (B := 1000) (by omega) (by omega)
  have p6 := mul_bd (a := 4 * a * c * c) (b := c) (A := 4000000000) (B := 1000) (by omega) (by omega)
  have p7 := mul_bd (a := 4 * b) (b := b) (A := 4000) (B := 1000) (by omega) (by omega)
  have p8 := mul_bd (a := 4 * b * b) (b := b) (A := 4000000) (B := 1000) (by omega) (by omega)
  have p9 := mul_bd (a := 4 * b * b * b) (b := d) (A := 4000000000) (B := 1000) (by omega) (by omega)
  have q1 := mul_bd (a := 27 * a) (b := a) (A := 27000) (B := 1000) (by omega) (by omega)
  have q2 := mul_bd (a := 27 * a * a) (b := d) (A := 27000000) (B := 1000) (by omega) (by omega)
  have q3 := mul_bd (a := 27 * a * a * d) (b := d) (A := 27000000000) (B := 1000) (by omega) (by omega)
  have q4 := mul_bd (a := 18 * a) (b := b) (A := 18000) (B := 1000) (by omega) (by omega)
  have q5 := mul_bd (a := 18 * a * b) (b := c) (A := 18000000) (B := 1000) (by omega) (by omega)
  have q6 := mul_bd (a := 18 * a * b * c) (b := d) (A := 18000000000) (B := 1000) (by omega) (by omega)
  rw [← dc_eq]
  go_enter Try.func37, Try.ntmps37
  go_wp2
  refine bodyPost_ret (v := _) (by simp [results, Try.results37, go_sem, *]) rfl ⟨rfl, ?_⟩
  repeat' first | (with_reducible first | apply zRf | assumption | apply zDn | apply zDr | apply zAl | apply zSt | refine zVi (by assumption) ?_ ?_) | go_size
theorem CubicDiscriminant_any (a b c d : Int) (w : World) : Calls Try.prog 14 #[.agg #[.int .i64 a, .int .i64 b, .int .i64 c, .int .i64 d]] w fun r w' => r = .returned (.tuple #[.int .i64 (itZ (cuB a b c d) (dcV a b c d)), .bool (cuB a b c d)]) ∧ Below w.heap.size w w' := by
  have T1 := fun W : World => Lib.hid (isCubic_any a b c d W)
  rcases h1 : cuB a b c d with _ | _
  · rw [h1] at T1
    simp only [itZ_f]
    have T2 := T1
    clear h1
    have tok1 : True := trivial
    have tok2 : True := trivial
    go_enter Try.func14, Try.ntmps14
    go_wp2_with (first | (have _t := tok1; go_at_call 25; (with_reducible refine ((T1 _).out).mono ?_); rintro e w1 ⟨rfl, hb1⟩; clear tok1 _t; have hz1 := hb1.size; (try simp only [World.size_alloc, World.size_setCell, World.size_drew, World.size_drewN'] at hz1); (try (have kq := cellAt hb1 (w.heap.size) (by go_size); have k1_w_0_0 := kq 0; have k1_w_0_1 := kq 1; have k1_w_0_2 := kq 2; have k1_w_0_3 := kq 3; clear kq; have f1_w_0 := frozAt hb1 (w.heap.size) (by go_size); simp [go_sem, *] at k1_w_0_0 k1_w_0_1 k1_w_0_2 k1_w_0_3 f1_w_0)); (try have l1_w_0 : w.heap.size < w1.heap.size := by omega)) | (have _t := tok2; go_at_call 35; (with_reducible refine ((T2 _).out).mono ?_); rintro e w2 ⟨rfl, hb2⟩; clear tok2 _t; have hz2 := hb2.size; (try simp only [World.size_alloc, World.size_setCell, World.size_drew, World.size_drewN'] at hz2); (try (have kq := cellAt hb2 (w.heap.size) (by go_size); have k2_w_0_0 := kq 0; have k2_w_0_1 := kq 1; have k2_w_0_2 := kq 2; have k2_w_0_3 := kq 3; clear kq; have f2_w_0 := frozAt hb2 (w.heap.size) (by go_size); simp [go_sem, *] at k2_w_0_0 k2_w_0_1 k2_w_0_2 k2_w_0_3 f2_w_0)); (try have l2_w_0 : w.heap.size < w2.heap.size := by omega); (try clear k1_w_0_0 k1_w_0_1 k1_w_0_2 k1_w_0_3 f1_w_0); (try clear l1_w_0)))
    go_ret2
    refine ⟨rfl, ?_⟩
    repeat' first | (with_reducible first | apply zRf | assumption | apply zDn | apply zDr | apply zAl | apply zSt | refine zVi (by assumption) ?_ ?_) | go_size
  · rw [h1] at T1
    obtain ⟨_, b1, b2, b3, b4⟩ := cuB_bd h1
    have T2 := fun W : World => Lib.hid (discriminant_any a b c d W b1 b2 b3 b4)
    simp only [itZ_t]
    generalize dcV a b c d = v at *
    clear h1
    have tok1 : True := trivial
    have tok2 : True := trivial
    go_enter Try.func14, Try.ntmps14
    go_wp2_with (first | (have _t := tok1; go_at_call 25; (with_reducible refine ((T1 _).out).mono ?_); rintro e w1 ⟨rfl, hb1⟩; clear tok1 _t; have hz1 := hb1.size; (try simp only [World.size_alloc, World.size_setCell, World.size_drew, World.size_drewN'] at hz1); (try (have kq := cellAt hb1 (w.heap.size) (by go_size); have k1_w_0_0 := kq 0; have k1_w_0_1 := kq 1; have k1_w_0_2 := kq 2; have k1_w_0_3 := kq 3; clear kq; have f1_w_0 := frozAt hb1 (w.heap.size) (by go_size); simp [go_sem, *] at k1_w_0_0 k1_w_0_1 k1_w_0_2 k1_w_0_3 f1_w_0)); (try have l1_w_0 : w.heap.size < w1.heap.size := by omega)) | (have _t := tok2; go_at_call 35; (with_reducible refine ((T2 _).out).mono ?_); rintro e w2 ⟨rfl, hb2⟩; clear tok2 _t; have hz2 := hb2.size; (try simp only [World.size_alloc, World.size_setCell, World.size_drew, World.size_drewN'] at hz2); (try (have kq := cellAt hb2 (w.heap.size) (by go_size); have k2_w_0_0 := kq 0; have k2_w_0_1 := kq 1; have k2_w_0_2 := kq 2; have k2_w_0_3 := kq 3; clear kq; have f2_w_0 := frozAt hb2 (w.heap.size) (by go_size); simp [go_sem, *] at k2_w_0_0 k2_w_0_1 k2_w_0_2 k2_w_0_3 f2_w_0)); (try have l2_w_0 : w.heap.size < w2.heap.size := by omega); (try clear k1_w_0_0 k1_w_0_1 k1_w_0_2 k1_w_0_3 f1_w_0); (try clear l1_w_0)))
    go_ret2
    refine ⟨rfl, ?_⟩
    repeat' first | (with_reducible first | apply zRf | assumption | apply zDn | apply zDr | apply zAl | apply zSt | refine zVi (by assumption) ?_ ?_) | go_size
theorem sCubicDiscriminant_any (a b c d : Int) (w : World) : Calls Try.prog 15 #[.agg #[.int .i64 a, .int .i64 b, .int .i64 c, .int .i64 d]] w fun r w' => r = .returned (.tuple #[.int .i64 (itZ (cuB a b c d) (dcV a b c d)), .bool (cuB a b c d)]) ∧ Below w.heap.size w w' := by
  have T1 := fun W : World => Lib.hid (cuGood_any a b c d W)
  rcases h1 : cuB a b c d with _ | _
  · rw [h1] at T1
    simp only [itZ_f]
    have T2 := T1
    clear h1
    have tok1 : True := trivial
    have tok2 : True := trivial
    go_enter Try.func15, Try.ntmps15
    go_wp2_with (first | (have _t := tok1; go_at_call 27; (with_reducible refine ((T1 _).out).mono ?_); rintro e w1 ⟨rfl, hb1⟩; clear tok1 _t; have hz1 := hb1.size; (try simp only [World.size_alloc, World.size_setCell, World.size_drew, World.size_drewN'] at hz1); (try (have kq := cellAt hb1 (w.heap.size) (by go_size); have k1_w_0_0 := kq 0; have k1_w_0_1 := kq 1; have k1_w_0_2 := kq 2; have k1_w_0_3 := kq 3; clear kq; have f1_w_0 := frozAt hb1 (w.heap.size) (by go_size); simp [go_sem, *] at k1_w_0_0 k1_w_0_1 k1_w_0_2 k1_w_0_3 f1_w_0)); (try have l1_w_0 : w.heap.size < w1.heap.size := by omega)) | (have _t := tok2; go_at_call 37; (with_reducible refine ((T2 _).out).mono ?_); rintro e w2 ⟨rfl, hb2⟩; clear tok2 _t; have hz2 := hb2.size; (try simp only [World.size_alloc, World.size_setCell, World.size_drew, World.size_drewN'] at hz2); (try (have kq := cellAt hb2 (w.heap.size) (by go_size); have k2_w_0_0 := kq 0; have k2_w_0_1 := kq 1; have k2_w_0_2 := kq 2; have k2_w_0_3 := kq 3; clear kq; have f2_w_0 := frozAt hb2 (w.heap.size) (by go_size); simp [go_sem, *] at k2_w_0_0 k2_w_0_1 k2_w_0_2 k2_w_0_3 f2_w_0)); (try have l2_w_0 : w.heap.size < w2.heap.size := by omega); (try clear k1_w_0_0 k1_w_0_1 k1_w_0_2 k1_w_0_3 f1_w_0); (try clear l1_w_0)))
    go_ret2
    refine ⟨rfl, ?_⟩
    repeat' first | (with_reducible first | apply zRf | assumption | apply zDn | apply zDr | apply zAl | apply zSt | refine zVi (by assumption) ?_ ?_) | go_size
  · rw [h1] at T1
    obtain ⟨_, b1, b2, b3, b4⟩ := cuB_bd h1
    have T2 := fun W : World => Lib.hid (cuDisc_any a b c d W b1 b2 b3 b4)
    simp only [itZ_t]
    generalize dcV a b c d = v at *
    clear h1
    have tok1 : True := trivial
    have tok2 : True := trivial
    go_enter Try.func15, Try.ntmps15
    go_wp2_with (first | (have _t := tok1; go_at_call 27; (with_reducible refine ((T1 _).out).mono ?_); rintro e w1 ⟨rfl, hb1⟩; clear tok1 _t; have hz1 := hb1.size; (try simp only [World.size_alloc, World.size_setCell, World.size_drew, World.size_drewN'] at hz1); (try (have kq := cellAt hb1 (w.heap.size) (by go_size); have k1_w_0_0 := kq 0; have k1_w_0_1 := kq 1; have k1_w_0_2 := kq 2; have k1_w_0_3 := kq 3; clear kq; have f1_w_0 := frozAt hb1 (w.heap.size) (by go_size); simp [go_sem, *] at k1_w_0_0 k1_w_0_1 k1_w_0_2 k1_w_0_3 f1_w_0)); (try have l1_w_0 : w.heap.size < w1.heap.size := by omega)) | (have _t := tok2; go_at_call 37; (with_reducible refine ((T2 _).out).mono ?_); rintro e w2 ⟨rfl, hb2⟩; clear tok2 _t; have hz2 := hb2.size; (try simp only [World.size_alloc, World.size_setCell, World.size_drew, World.size_drewN'] at hz2); (try (have kq := cellAt hb2 (w.heap.size) (by go_size); have k2_w_0_0 := kq 0; have k2_w_0_1 := kq 1; have k2_w_0_2 := kq 2; have k2_w_0_3 := kq 3; clear kq; have f2_w_0 := frozAt hb2 (w.heap.size) (by go_size); simp [go_sem, *] at k2_w_0_0 k2_w_0_1 k2_w_0_2 k2_w_0_3 f2_w_0)); (try have l2_w_0 : w.heap.size < w2.heap.size := by omega); (try clear k1_w_0_0 k1_w_0_1 k1_w_0_2 k1_w_0_3 f1_w_0); (try clear l1_w_0)))
    go_ret2
    refine ⟨rfl, ?_⟩
    repeat' first | (with_reducible first | apply zRf | assumption | apply zDn | apply zDr | apply zAl | apply zSt | refine zVi (by assumption) ?_ ?_) | go_size
theorem rnV_cases (a b c d : Int) : (0 < dcV a b c d ∧ rnV a b c d = 3) ∨ (dcV a b c d < 0 ∧ rnV a b c d = 1) ∨ (dcV a b c d = 0 ∧ b * b = 3 * a * c ∧ rnV a b c d = 1) ∨ (dcV a b c d = 0 ∧ b * b ≠ 3 * a * c ∧ rnV a b c d = 2) := by
  unfold rnV
  by_cases h1 : 0 < dcV a b c d
  · simp [h1]
  · by_cases h2 : dcV a b c d < 0
    · simp [h1, h2]
    · by_cases h3 : b * b = 3 * a * c
      · have : dcV a b c d = 0 := by omega
        simp [h3, this]
      · have : dcV a b c d = 0 := by omega
        simp [h3, this]
theorem RealRootCount_any (a b c d : Int) (w : World) : Calls Try.prog 12 #[.agg #[.int .i64 a, .int .i64 b, .int .i64 c, .int .i64 d]] w fun r w' => r = .returned (.tuple #[.int .i64 (itZ (cuB a b c d) (rnV a b c d)), .bool (cuB a b c d)]) ∧ Below w.heap.size w w' := by
  have T1 := fun W : World => Lib.hid (isCubic_any a b c d W)
  rcases h1 : cuB a b c d with _ | _
  · rw [h1] at T1
    simp only [itZ_f]
    have T2 := T1
    clear h1
    have tok1 : True := trivial
    have tok2 : True := trivial
    go_enter Try.func12, Try.ntmps12
    go_wp2_with (first | (have _t := tok1; go_at_call 25; (with_reducible refine ((T1 _).out).mono ?_); rintro e w1 ⟨rfl, hb1⟩; clear tok1 _t; have hz1 := hb1.size; (try simp only [World.size_alloc, World.size_setCell, World.size_drew, World.size_drewN'] at hz1); (try (have kq := cellAt hb1 (w.heap.size) (by go_size); have k1_w_0_0 := kq 0; have k1_w_0_1 := kq 1; have k1_w_0_2 := kq 2; have k1_w_0_3 := kq 3; clear kq; have f1_w_0 := frozAt hb1 (w.heap.size) (by go_size); simp [go_sem, *] at k1_w_0_0 k1_w_0_1 k1_w_0_2 k1_w_0_3 f1_w_0)); (try have l1_w_0 : w.heap.size < w1.heap.size := by omega); (try (have kq := cellAt hb1 (w.heap.size) (by go_size); have k1_w_0_0 := kq 0; have k1_w_0_1 := kq 1; have k1_w_0_2 := kq 2; have k1_w_0_3 := kq 3; clear kq; have f1_w_0 := frozAt hb1 (w.heap.size) (by go_size); simp [go_sem, *] at k1_w_0_0 k1_w_0_1 k1_w_0_2 k1_w_0_3 f1_w_0)); (try have l1_w_0 : w.heap.size < w1.heap.size := by omega)) | (have _t := tok2; go_at_call 35; (with_reducible refine ((T2 _).out).mono ?_); rintro e w2 ⟨rfl, hb2⟩; clear tok2 _t; have hz2 := hb2.size; (try simp only [World.size_alloc, World.size_setCell, World.size_drew, World.size_drewN'] at hz2); (try (have kq := cellAt hb2 (w.heap.size) (by go_size); have k2_w_0_0 := kq 0; have k2_w_0_1 := kq 1; have k2_w_0_2 := kq 2; have k2_w_0_3 := kq 3; clear kq; have f2_w_0 := frozAt hb2 (w.heap.size) (by go_size); simp [go_sem, *] at k2_w_0_0 k2_w_0_1 k2_w_0_2 k2_w_0_3 f2_w_0)); (try have l2_w_0 : w.heap.size < w2.heap.size := by omega); (try (have kq := cellAt hb2 (w.heap.size) (by go_size); have k2_w_0_0 := kq 0; have k2_w_0_1 := kq 1; have k2_w_0_2 := kq 2; have k2_w_0_3 := kq 3; clear kq; have f2_w_0 := frozAt hb2 (w.heap.size) (by go_size); simp [go_sem, *] at k2_w_0_0 k2_w_0_1 k2_w_0_2 k2_w_0_3 f2_w_0)); (try have l2_w_0 : w.heap.size < w2.heap.size := by omega); (try clear k1_w_0_0 k1_w_0_1 k1_w_0_2 k1_w_0_3 f1_w_0); (try clear l1_w_0); (try clear k1_w_0_0 k1_w_0_1 k1_w_0_2 k1_w_0_3 f1_w_0); (try clear l1_w_0)))
    go_ret2
    refine ⟨rfl, ?_⟩
    repeat' first | (with_reducible first | apply zRf | assumption | apply zDn | apply zDr | apply zAl | apply zSt | refine zVi (by assumption) ?_ ?_) | go_size
  · rw [h1] at T1
    obtain ⟨_, b1, b2, b3, b4⟩ := cuB_bd h1
    have T2 := fun W : World => Lib.hid (discriminant_any a b c d W b1 b2 b3 b4)
    have p1 := mul_bd (a := b) (b := b) (A := 1000) (B := 1000) (by omega) (by omega)
    have p2 := mul_bd (a := 3 * a) (b := c) (A := 3000) (B := 1000) (by omega) (by omega)
    simp only [itZ_t]
    have hc := rnV_cases a b c d
    clear h1
    generalize dcV a b c d = v at *
    rcases hc with ⟨h2, h3⟩ | ⟨h2, h3⟩ | ⟨h2, h4, h3⟩ | ⟨h2, h4, h3⟩
    all_goals
      rw [h3]
      clear h3
      (try (have h5 : (b * b == 3 * a * c) = true := by simpa using h4))
      (try (have h5 : (b * b == 3 * a * c) = false := by simpa using h4))
      (try subst h2)
      have tok1 : True := trivial
      have tok2 : True := trivial
      go_enter Try.func12, Try.ntmps12
      go_wp2_with (first | (have _t := tok1; go_at_call 25; (with_reducible refine ((T1 _).out).mono ?_); rintro e w1 ⟨rfl, hb1⟩; clear tok1 _t; have hz1 := hb1.size; (try simp only [World.size_alloc, World.size_setCell, World.size_drew, World.size_drewN'] at hz1); (try (have kq := cellAt hb1 (w.heap.size) (by go_size); have k1_w_0_0 := kq 0; have k1_w_0_1 := kq 1; have k1_w_0_2 := kq 2; have k1_w_0_3 := kq 3; clear kq; have f1_w_0 := frozAt hb1 (w.heap.size) (by go_size); simp [go_sem, *] at k1_w_0_0 k1_w_0_1 k1_w_0_2 k1_w_0_3 f1_w_0)); (try have l1_w_0 : w.heap.size < w1.heap.size := by omega); (try (have kq := cellAt hb1 (w.heap.size) (by go_size); have k1_w_0_0 := kq 0; have k1_w_0_1 := kq 1; have k1_w_0_2 := kq 2; have k1_w_0_3 := kq 3; clear kq; have f1_w_0 := frozAt hb1 (w.heap.size) (by go_size); simp [go_sem, *] at k1_w_0_0 k1_w_0_1 k1_w_0_2 k1_w_0_3 f1_w_0)); (try have l1_w_0 : w.heap.size < w1.heap.size := by omega)) | (have _t := tok2; go_at_call 35; (with_reducible refine ((T2 _).out).mono ?_); rintro e w2 ⟨rfl, hb2⟩; clear tok2 _t; have hz2 := hb2.size; (try simp only [World.size_alloc, World.size_setCell, World.size_drew, World.size_drewN'] at hz2); (try (have kq := cellAt hb2 (w.heap.size) (by go_size); have k2_w_0_0 := kq 0; have k2_w_0_1 := kq 1; have k2_w_0_2 := kq 2; have k2_w_0_3 := kq 3; clear kq; have f2_w_0 := frozAt hb2 (w.heap.size) (by go_size); simp [go_sem, *] at k2_w_0_0 k2_w_0_1 k2_w_0_2 k2_w_0_3 f2_w_0)); (try have l2_w_0 : w.heap.size < w2.heap.size := by omega); (try (have kq := cellAt hb2 (w.heap.size) (by go_size); have k2_w_0_0 := kq 0; have k2_w_0_1 := kq 1; have k2_w_0_2 := kq 2; have k2_w_0_3 := kq 3; clear kq; have f2_w_0 := frozAt hb2 (w.heap.size) (by go_size); simp [go_sem, *] at k2_w_0_0 k2_w_0_1 k2_w_0_2 k2_w_0_3 f2_w_0)); (try have l2_w_0 : w.heap.size < w2.heap.size := by omega); (try clear k1_w_0_0 k1_w_0_1 k1_w_0_2 k1_w_0_3 f1_w_0); (try clear l1_w_0); (try clear k1_w_0_0 k1_w_0_1 k1_w_0_2 k1_w_0_3 f1_w_0); (try clear l1_w_0)))
      go_ret2
      refine ⟨rfl, ?_⟩
      repeat' first | (with_reducible first | apply zRf | assumption | apply zDn | apply zDr | apply zAl | apply zSt | refine zVi (by assumption) ?_ ?_) | go_size
theorem cuReal_any (a b c d : Int) (w : World) (h1 : cuB a b c d = true) : Calls Try.prog 36 #[.agg #[.int .i64 a, .int .i64 b, .int .i64 c, .int .i64 d]] w fun r w' => r = .returned (.int .i64 (rnV a b c d)) ∧ Below w.heap.size w w' := by
  obtain ⟨_, b1, b2, b3, b4⟩ := cuB_bd h1
  have T2 := fun W : World => Lib.hid (cuDisc_any a b c d W b1 b2 b3 b4)
  have p1 := mul_bd (a := b) (b := b) (A := 1000) (B := 1000) (by omega) (by omega)
  have p2 := mul_bd (a := 3 * a) (b := c) (A := 3000) (B := 1000) (by omega) (by omega)
  have hc := rnV_cases a b c d
  clear h1
  generalize dcV a b c d = v at *
  rcases hc with ⟨h2, h3⟩ | ⟨h2, h3⟩ | ⟨h2, h4, h3⟩ | ⟨h2, h4, h3⟩
  all_goals
    rw [h3]
    clear h3
    (try (have h5 : (b * b == 3 * a * c) = true := by simpa using h4))
    (try (have h5 : (b * b == 3 * a * c) = false := by simpa using h4))
    (try subst h2)
    have tok1 : True := trivial
    have tok2 : True := trivial
    go_enter Try.func36, Try.ntmps36
    go_wp2_with (first | (have _t := tok2; go_at_call 37; (with_reducible refine ((T2 _).out).mono ?_); rintro e w2 ⟨rfl, hb2⟩; clear tok2 _t; have hz2 := hb2.size; (try simp only [World.size_alloc, World.size_setCell, World.size_drew, World.size_drewN'] at hz2); (try (have kq := cellAt hb2 (w.heap.size) (by go_size); have k2_w_0_0 := kq 0; have k2_w_0_1 := kq 1; have k2_w_0_2 := kq 2; have k2_w_0_3 := kq 3; clear kq; have f2_w_0 := frozAt hb2 (w.heap.size) (by go_size); simp [go_sem, *] at k2_w_0_0 k2_w_0_1 k2_w_0_2 k2_w_0_3 f2_w_0)); (try have l2_w_0 : w.heap.size < w2.heap.size := by omega); (try (have kq := cellAt hb2 (w.heap.size) (by go_size); have k2_w_0_0 := kq 0; have k2_w_0_1 := kq 1; have k2_w_0_2 := kq 2; have k2_w_0_3 := kq 3; clear kq; have f2_w_0 := frozAt hb2 (w.heap.size) (by go_size); simp [go_sem, *] at k2_w_0_0 k2_w_0_1 k2_w_0_2 k2_w_0_3 f2_w_0)); (try have l2_w_0 : w.heap.size < w2.heap.size := by omega); (try clear k1_w_0_0 k1_w_0_1 k1_w_0_2 k1_w_0_3 f1_w_0); (try clear l1_w_0); (try clear k1_w_0_0 k1_w_0_1 k1_w_0_2 k1_w_0_3 f1_w_0); (try clear l1_w_0)))
    go_ret
    refine ⟨rfl, ?_⟩
    repeat' first | (with_reducible first | apply zRf | assumption | apply zDn | apply zDr | apply zAl | apply zSt | refine zVi (by assumption) ?_ ?_) | go_size
theorem sRealRootCount_any (a b c d : Int) (w : World) : Calls Try.prog 13 #[.agg #[.int .i64 a, .int .i64 b, .int .i64 c, .int .i64 d]] w fun r w' => r = .returned (.tuple #[.int .i64 (itZ (cuB a b c d) (rnV a b c d)), .bool (cuB a b c d)]) ∧ Below w.heap.size w w' := by
  have T1 := fun W : World => Lib.hid (cuGood_any a b c d W)
  rcases h1 : cuB a b c d with _ | _
  · rw [h1] at T1
    simp only [itZ_f]
    have T2 := T1
    clear h1
    have tok1 : True := trivial
    have tok2 : True := trivial
    go_enter Try.func13, Try.ntmps13
    go_wp2_with (first | (have _t := tok1; go_at_call 27; (with_reducible refine ((T1 _).out).mono ?_); rintro e w1 ⟨rfl, hb1⟩; clear tok1 _t; have hz1 := hb1.size; (try simp only [World.size_alloc, World.size_setCell, World.size_drew, World.size_drewN'] at hz1); (try (have kq := cellAt hb1 (w.heap.size) (by go_size); have k1_w_0_0 := kq 0; have k1_w_0_1 := kq 1; have k1_w_0_2 := kq 2; have k1_w_0_3 := kq 3; clear kq; have f1_w_0 := frozAt hb1 (w.heap.size) (by go_size); simp [go_sem, *] at k1_w_0_0 k1_w_0_1 k1_w_0_2 k1_w_0_3 f1_w_0)); (try have l1_w_0 : w.heap.size < w1.heap.size := by omega)) | (have _t := tok2; go_at_call 36; (with_reducible refine ((T2 _).out).mono ?_); rintro e w2 ⟨rfl, hb2⟩; clear tok2 _t; have hz2 := hb2.size; (try simp only [World.size_alloc, World.size_setCell, World.size_drew, World.size_drewN'] at hz2); (try (have kq := cellAt hb2 (w.heap.size) (by go_size); have k2_w_0_0 := kq 0; have k2_w_0_1 := kq 1; have k2_w_0_2 := kq 2; have k2_w_0_3 := kq 3; clear kq; have f2_w_0 := frozAt hb2 (w.heap.size) (by go_size); simp [go_sem, *] at k2_w_0_0 k2_w_0_1 k2_w_0_2 k2_w_0_3 f2_w_0)); (try have l2_w_0 : w.heap.size < w2.heap.size := by omega); (try clear k1_w_0_0 k1_w_0_1 k1_w_0_2 k1_w_0_3 f1_w_0); (try clear l1_w_0)))
    go_ret2
    refine ⟨rfl, ?_⟩
    repeat' first | (with_reducible first | apply zRf | assumption | apply zDn | apply zDr | apply zAl | apply zSt | refine zVi (by assumption) ?_ ?_) | go_size
  · rw [h1] at T1
    have T2 := fun W : World => Lib.hid (cuReal_any a b c d W h1)
    simp only [itZ_t]
    generalize rnV a b c d = v at *
    clear h1
    have tok1 : True := trivial
    have tok2 : True := trivial
    go_enter Try.func13, Try.ntmps13
    go_wp2_with (first | (have _t := tok1; go_at_call 27; (with_reducible refine ((T1 _).out).mono ?_); rintro e w1 ⟨rfl, hb1⟩; clear tok1 _t; have hz1 := hb1.size; (try simp only [World.size_alloc, World.size_setCell, World.size_drew, World.size_drewN'] at hz1); (try (have kq := cellAt hb1 (w.heap.size) (by go_size); have k1_w_0_0 := kq 0; have k1_w_0_1 := kq 1; have k1_w_0_2 := kq 2; have k1_w_0_3 := kq 3; clear kq; have f1_w_0 := frozAt hb1 (w.heap.size) (by go_size); simp [go_sem, *] at k1_w_0_0 k1_w_0_1 k1_w_0_2 k1_w_0_3 f1_w_0)); (try have l1_w_0 : w.heap.size < w1.heap.size := by omega)) | (have _t := tok2; go_at_call 36; (with_reducible refine ((T2 _).out).mono ?_); rintro e w2 ⟨rfl, hb2⟩; clear tok2 _t; have hz2 := hb2.size; (try simp only [World.size_alloc, World.size_setCell, World.size_drew, World.size_drewN'] at hz2); (try (have kq := cellAt hb2 (w.heap.size) (by go_size); have k2_w_0_0 := kq 0; have k2_w_0_1 := kq 1; have k2_w_0_2 := kq 2; have k2_w_0_3 := kq 3; clear kq; have f2_w_0 := frozAt hb2 (w.heap.size) (by go_size); simp [go_sem, *] at k2_w_0_0 k2_w_0_1 k2_w_0_2 k2_w_0_3 f2_w_0)); (try have l2_w_0 : w.heap.size < w2.heap.size := by omega); (try clear k1_w_0_0 k1_w_0_1 k1_w_0_2 k1_w_0_3 f1_w_0); (try clear l1_w_0)))
    go_ret2
    refine ⟨rfl, ?_⟩
    repeat' first | (with_reducible first | apply zRf | assumption | apply zDn | apply zDr | apply zAl | apply zSt | refine zVi (by assumption) ?_ ?_) | go_size
end Go.Proofs.Ytldonmcbnhgbdaa
