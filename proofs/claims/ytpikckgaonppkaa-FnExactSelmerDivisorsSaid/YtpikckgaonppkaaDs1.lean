/- Two-curves and their sides: both sides. -/
import Derived.Test.YtpikckgaonppkaaNum
import Derived.Test.YtpikckgaonppkaaDrawn
import Derived.BigQuiet
namespace Go.Proofs.Ytpikckgaonppkaa
open Go.RowKit
set_option linter.unusedVariables false
set_option maxHeartbeats 4000000
set_option maxRecDepth 20000
set_option linter.unusedSimpArgs false
def tcB (a b : Int) : Bool := inB a (-300) 300 && (inB b (-300) 300 && (decide (b ≠ 0) && decide (a * a ≠ 4 * b)))
theorem tcB_cases (a b : Int) : (inB a (-300) 300 = false ∧ tcB a b = false) ∨ (inB a (-300) 300 = true ∧ ((inB b (-300) 300 = false ∧ tcB a b = false) ∨ (inB b (-300) 300 = true ∧ ((b = 0 ∧ tcB a b = false) ∨ (b ≠ 0 ∧ tcB a b = decide (a * a ≠ 4 * b)))))) := by
  cases h1 : inB a (-300) 300
  · left; simp [tcB, h1]
  · right; refine ⟨rfl, ?_⟩
    cases h2 : inB b (-300) 300
    · left; simp [tcB, h1, h2]
    · right; refine ⟨rfl, ?_⟩
      by_cases h3 : b = 0
      · left; simp [tcB, h1, h2, h3]
      · right; exact ⟨h3, by simp [tcB, h1, h2, h3]⟩
theorem tcB_bd {a b : Int} (h : tcB a b = true) : (-300 ≤ a ∧ a ≤ 300) ∧ (-300 ≤ b ∧ b ≤ 300) ∧ b ≠ 0 ∧ a * a ≠ 4 * b := by
  simp [tcB, inB] at h; omega
theorem tcGood_any (a b : Int) (w : World) : Calls Try.prog 51 #[.agg #[.int .i64 a, .int .i64 b]] w fun e w' => e = .returned (.bool (tcB a b)) ∧ Below w.heap.size w w' := by
  rcases tcB_cases a b with ⟨h1, h⟩ | ⟨h1, ⟨h2, h⟩ | ⟨h2, ⟨rfl, h⟩ | ⟨h3, h⟩⟩⟩
  all_goals
    rw [h]
    clear h
    try (have b1 := inB_iff.1 h1)
    try (have b2 := inB_iff.1 h2)
    try (have m := mul_bd (a := a) (b := a) (A := 300) (B := 300) (by omega) (by omega))
    go_enter Try.func51, Try.ntmps51
    go_wp2_with (first | (go_at_call 64; refine (l1In_any _ _ _ _).mono ?_; rintro e w' ⟨rfl, rfl⟩))
    go_ret
    refine ⟨ret_bool (by first | rfl | (rw [Bool.eq_iff_iff]; simp [h3])), ?_⟩
    repeat' first | (with_reducible first | apply zRf | assumption | apply zDn | apply zDr | apply zAl | apply zSt | refine zVi (by assumption) ?_ ?_) | go_size
theorem isTwoCurve_any (a b : Int) (w : World) : Calls Try.prog 47 #[.agg #[.int .i64 a, .int .i64 b]] w fun e w' => e = .returned (.bool (tcB a b)) ∧ Below w.heap.size w w' := by
  rcases tcB_cases a b with ⟨h1, h⟩ | ⟨h1, ⟨h2, h⟩ | ⟨h2, ⟨rfl, h⟩ | ⟨h3, h⟩⟩⟩
  all_goals
    rw [h]
    clear h
    try (have b1 := inB_iff.1 h1)
    try (have b2 := inB_iff.1 h2)
    try (have m := mul_bd (a := a) (b := a) (A := 300) (B := 300) (by omega) (by omega))
    go_enter Try.func47, Try.ntmps47
    go_wp2_with (first | (go_at_call 36; refine (inside_any _ _ _ _).mono ?_; rintro e w' ⟨rfl, rfl⟩))
    go_ret
    refine ⟨ret_bool (by first | rfl | (rw [Bool.eq_iff_iff]; simp [h3])), ?_⟩
    repeat' first | (with_reducible first | apply zRf | assumption | apply zDn | apply zDr | apply zAl | apply zSt | refine zVi (by assumption) ?_ ?_) | go_size
/-- the coefficients of a side -/
def sdV (a b : Int) (dual : Bool) : Int × Int := if dual = true then (-2 * a, a * a - 4 * b) else (a, b)
theorem sdV_bd {a b : Int} {dual : Bool} (h : tcB a b = true) : (-600 ≤ (sdV a b dual).1 ∧ (sdV a b dual).1 ≤ 600) ∧ (sdV a b dual).2 ≠ 0 ∧ (-91200 ≤ (sdV a b dual).2 ∧ (sdV a b dual).2 ≤ 91200) := by
  have hb := tcB_bd h
  have m := mul_bd (a := a) (b := a) (A := 300) (B := 300) (by omega) (by omega)
  cases dual <;> simp [sdV] <;> omega
theorem tcDual_any (a b : Int) (w : World) (ha : -300 ≤ a ∧ a ≤ 300) (hb : -300 ≤ b ∧ b ≤ 300) :
    Calls Try.prog 105 #[.agg #[.int .i64 a, .int .i64 b]] w fun e w' => e = .returned (.tuple #[.int .i64 (-2 * a), .int .i64 (a * a - 4 * b)]) ∧ Below w.heap.size w w' := by
  have m := mul_bd (a := a) (b := a) (A := 300) (B := 300) (by omega) (by omega)
  go_enter Try.func105, Try.ntmps105
  go_wp2_with fail
  go_quiet (fail)
  go_wp2_with fail
  go_ret2
  refine ⟨rfl, ?_⟩
  repeat' first | (with_reducible first | apply zRf | assumption | apply zDn | apply zDr | apply zAl | apply zSt | refine zVi (by assumption) ?_ ?_) | go_size
theorem dsSide_any (a b : Int) (dual : Bool) (w : World) (ha : -300 ≤ a ∧ a ≤ 300) (hb : -300 ≤ b ∧ b ≤ 300) :
    Calls Try.prog 93 #[.agg #[.int .i64 a, .int .i64 b], .bool dual] w fun e w' => e = .returned (.tuple #[.int .i64 (sdV a b dual).1, .int .i64 (sdV a b dual).2]) ∧ Below w.heap.size w w' := by
  have m := mul_bd (a := a) (b := a) (A := 300) (B := 300) (by omega) (by omega)
  cases dual
  · go_enter Try.func93, Try.ntmps93
    go_wp2_with fail
    go_quiet (fail)
    go_wp2_with fail
    go_ret2
    refine ⟨rfl, ?_⟩
    repeat' first | (with_reducible first | apply zRf | assumption | apply zDn | apply zDr | apply zAl | apply zSt | refine zVi (by assumption) ?_ ?_) | go_size
  · have T1 := fun W : World => Lib.hid (tcDual_any a b W ha hb)
    have tok1 : True := trivial
    go_enter Try.func93, Try.ntmps93
    go_wp2_with (first | (have _t := tok1; go_at_call 105; (with_reducible refine ((T1 _).out).mono ?_); rintro e w1 ⟨rfl, hb1⟩; clear tok1 _t; have hz1 := hb1.size; (try simp only [World.size_alloc, World.size_setCell, World.size_drew, World.size_drewN'] at hz1); (try (have kq := cellAt hb1 (w.heap.size) (by go_size); have k1_w_0_0 := kq 0; have k1_w_0_1 := kq 1; clear kq; have f1_w_0 := frozAt hb1 (w.heap.size) (by go_size); simp [go_sem, *] at k1_w_0_0 k1_w_0_1 f1_w_0)); (try have l1_w_0 : w.heap.size < w1.heap.size := by omega)))
    go_ret2
    refine ⟨rfl, ?_⟩
    repeat' first | (with_reducible first | apply zRf | assumption | apply zDn | apply zDr | apply zAl | apply zSt | refine zVi (by assumption) ?_ ?_) | go_size
theorem side_any (a b : Int) (dual : Bool) (w : World) (ha : -300 ≤ a ∧ a ≤ 300) (hb : -300 ≤ b ∧ b ≤ 300) :
    Calls Try.prog 74 #[.agg #[.int .i64 a, .int .i64 b], .bool dual] w fun e w' => e = .returned (.tuple #[.int .i64 (sdV a b dual).1, .int .i64 (sdV a b dual).2]) ∧ Below w.heap.size w w' := by
  have m := mul_bd (a := a) (b := a) (A := 300) (B := 300) (by omega) (by omega)
  cases dual
  all_goals
    go_enter Try.func74, Try.ntmps74
    go_wp2_with fail
    go_quiet (fail)
    go_wp2_with fail
    go_ret2
    refine ⟨rfl, ?_⟩
    repeat' first | (with_reducible first | apply zRf | assumption | apply zDn | apply zDr | apply zAl | apply zSt | refine zVi (by assumption) ?_ ?_) | go_size
end Go.Proofs.Ytpikckgaonppkaa
