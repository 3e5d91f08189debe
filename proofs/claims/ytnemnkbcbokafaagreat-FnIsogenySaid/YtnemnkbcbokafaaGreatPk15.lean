/- Lemmas and contracts of functions. No condition. -/
import Derived.Test.YtnemnkbcbokafaaGreatPk1
import Derived.Test.YtnemnkbcbokafaaGreatPk9
namespace Go.Proofs.YtnemnkbcbokafaaGreat
section
open Go.RowKit
set_option linter.unusedVariables false
set_option maxHeartbeats 1000000
set_option maxRecDepth 20000
set_option linter.unusedSimpArgs false
attribute [local go_sem] openAt openUpon
def coV (a b : Int) : Int := 4 * a * a * a + 27 * b * b
def cvB (a b : Int) : Bool := inB a (-1000) 1000 && (inB b (-10000) 10000 && decide (coV a b ≠ 0))
theorem cvB_cases (a b : Int) : (inB a (-1000) 1000 = false ∧ cvB a b = false) ∨ (inB a (-1000) 1000 = true ∧ ((inB b (-10000) 10000 = false ∧ cvB a b = false) ∨ (inB b (-10000) 10000 = true ∧ cvB a b = (coV a b != 0)))) := by
 cases h1 : inB a (-1000) 1000
 ·left; simp [cvB, h1]
 ·right; refine ⟨rfl, ?_⟩
  cases h2 : inB b (-10000) 10000
  ·left; simp [cvB, h2]
  ·right; refine ⟨rfl, ?_⟩
   simp [cvB, h1, h2, bne]
   by_cases h : coV a b = 0 <;> simp [h]
theorem cvB_bd {a b : Int} (h : cvB a b = true) : (-1000 ≤ a ∧ a ≤ 1000) ∧ (-10000 ≤ b ∧ b ≤ 10000) ∧ coV a b ≠ 0 := by
 simp [cvB, inB] at h; omega
theorem ecDisc_any (a b : Int) (w : World) (ha : -1000 ≤ a ∧ a ≤ 1000) (hb : -10000 ≤ b ∧ b ≤ 10000) : Calls Tryz.prog 71 #[.agg #[.int .i64 a, .int .i64 b]] w fun e w' => e = .returned (.int .i64 (coV a b)) ∧ Below w.heap.size w w' := by
 have m1 := mul_bd (a := 4 * a) (b := a) (A := 4000) (B := 1000) (by omega) (by omega)
 have m2 := mul_bd (a := 4 * a * a) (b := a) (A := 4000000) (B := 1000) (by omega) (by omega)
 have m3 := mul_bd (a := 27 * b) (b := b) (A := 270000) (B := 10000) (by omega) (by omega)
 go_enter Tryz.func71, Tryz.ntmps71
 go_wp2_with fail
 go_ret
 refine ⟨rfl, ?_⟩
 exact bel
theorem core_any (a b : Int) (w : World) (ha : -1000 ≤ a ∧ a ≤ 1000) (hb : -10000 ≤ b ∧ b ≤ 10000) : Calls Tryz.prog 92 #[.agg #[.int .i64 a, .int .i64 b]] w fun e w' => e = .returned (.int .i64 (coV a b)) ∧ Below w.heap.size w w' := by
 have m1 := mul_bd (a := 4 * a) (b := a) (A := 4000) (B := 1000) (by omega) (by omega)
 have m2 := mul_bd (a := 4 * a * a) (b := a) (A := 4000000) (B := 1000) (by omega) (by omega)
 have m3 := mul_bd (a := 27 * b) (b := b) (A := 270000) (B := 10000) (by omega) (by omega)
 go_enter Tryz.func92, Tryz.ntmps92
 go_wp2_with fail
 go_ret
 refine ⟨rfl, ?_⟩
 exact bel
theorem ecGood_any (a b : Int) (w : World) : Calls Tryz.prog 43 #[.agg #[.int .i64 a, .int .i64 b]] w fun e w' => e = .returned (.bool (cvB a b)) ∧ Below w.heap.size w w' := by
 have T1 := fun W : World => Lib.hid (l1In_any a (-1000) 1000 W)
 have T2 := fun W : World => Lib.hid (l1In_any b (-10000) 10000 W)
 rcases cvB_cases a b with ⟨h1, h⟩ | ⟨h1, ⟨h2, h⟩ | ⟨h2, h⟩⟩
 ·rw [h]
  rw [h1] at T1
  have T3 := T1
  clear h h1
  have tok1 := trivial
  go_enter Tryz.func43, Tryz.ntmps43
  go_wp2_with (first | (go_at_call 48; (with_reducible refine ((T1 _).out).mono ?_); rintro e w' ⟨rfl, rfl⟩) | (go_at_call 48; (with_reducible refine ((T2 _).out).mono ?_); rintro e w' ⟨rfl, rfl⟩) | (have _t := tok1; go_at_call 71; (with_reducible refine ((T3 _).out).mono ?_); rintro e w1 ⟨rfl, hb1⟩; clear tok1 _t; have hz1 := hb1.size; (try simp only [sA, sB, sC, sD] at hz1); (try (obtain ⟨qa, qb, qc⟩ := cf2 hb1 (w.heap.size); simp [go_sem, *] at qa qb qc)); (try have qf : w.heap.size < w1.heap.size := by omega)))
  go_ret
  refine ⟨rfl, ?_⟩
  exact bel
 ·rw [h]
  rw [h1] at T1
  rw [h2] at T2
  have T3 := T1
  clear h h1 h2
  have tok1 := trivial
  go_enter Tryz.func43, Tryz.ntmps43
  go_wp2_with (first | (go_at_call 48; (with_reducible refine ((T1 _).out).mono ?_); rintro e w' ⟨rfl, rfl⟩) | (go_at_call 48; (with_reducible refine ((T2 _).out).mono ?_); rintro e w' ⟨rfl, rfl⟩) | (have _t := tok1; go_at_call 71; (with_reducible refine ((T3 _).out).mono ?_); rintro e w1 ⟨rfl, hb1⟩; clear tok1 _t; have hz1 := hb1.size; (try simp only [sA, sB, sC, sD] at hz1); (try (obtain ⟨qa, qb, qc⟩ := cf2 hb1 (w.heap.size); simp [go_sem, *] at qa qb qc)); (try have qf : w.heap.size < w1.heap.size := by omega)))
  go_ret
  refine ⟨rfl, ?_⟩
  exact bel
 ·rw [h]
  have T3 := fun W : World => Lib.hid (ecDisc_any a b W (inB_iff.1 h1) (inB_iff.1 h2))
  rw [h1] at T1
  rw [h2] at T2
  clear h h1 h2
  generalize coV a b = v at *
  have tok1 := trivial
  go_enter Tryz.func43, Tryz.ntmps43
  go_wp2_with (first | (go_at_call 48; (with_reducible refine ((T1 _).out).mono ?_); rintro e w' ⟨rfl, rfl⟩) | (go_at_call 48; (with_reducible refine ((T2 _).out).mono ?_); rintro e w' ⟨rfl, rfl⟩) | (have _t := tok1; go_at_call 71; (with_reducible refine ((T3 _).out).mono ?_); rintro e w1 ⟨rfl, hb1⟩; clear tok1 _t; have hz1 := hb1.size; (try simp only [sA, sB, sC, sD] at hz1); (try (obtain ⟨qa, qb, qc⟩ := cf2 hb1 (w.heap.size); simp [go_sem, *] at qa qb qc)); (try have qf : w.heap.size < w1.heap.size := by omega)))
  go_ret
  refine ⟨rfl, ?_⟩
  exact bel
theorem isCurve_any (a b : Int) (w : World) : Calls Tryz.prog 70 #[.agg #[.int .i64 a, .int .i64 b]] w fun e w' => e = .returned (.bool (cvB a b)) ∧ Below w.heap.size w w' := by
 have T1 := fun W : World => Lib.hid (inside_any a (-1000) 1000 W)
 have T2 := fun W : World => Lib.hid (inside_any b (-10000) 10000 W)
 rcases cvB_cases a b with ⟨h1, h⟩ | ⟨h1, ⟨h2, h⟩ | ⟨h2, h⟩⟩
 ·rw [h]
  rw [h1] at T1
  have T3 := T1
  clear h h1
  have tok1 := trivial
  go_enter Tryz.func70, Tryz.ntmps70
  go_wp2_with (first | (go_at_call 55; (with_reducible refine ((T1 _).out).mono ?_); rintro e w' ⟨rfl, rfl⟩) | (go_at_call 55; (with_reducible refine ((T2 _).out).mono ?_); rintro e w' ⟨rfl, rfl⟩) | (have _t := tok1; go_at_call 92; (with_reducible refine ((T3 _).out).mono ?_); rintro e w1 ⟨rfl, hb1⟩; clear tok1 _t; have hz1 := hb1.size; (try simp only [sA, sB, sC, sD] at hz1); (try (obtain ⟨qa, qb, qc⟩ := cf2 hb1 (w.heap.size); simp [go_sem, *] at qa qb qc)); (try have qf : w.heap.size < w1.heap.size := by omega)))
  go_ret
  refine ⟨rfl, ?_⟩
  exact bel
 ·rw [h]
  rw [h1] at T1
  rw [h2] at T2
  have T3 := T1
  clear h h1 h2
  have tok1 := trivial
  go_enter Tryz.func70, Tryz.ntmps70
  go_wp2_with (first | (go_at_call 55; (with_reducible refine ((T1 _).out).mono ?_); rintro e w' ⟨rfl, rfl⟩) | (go_at_call 55; (with_reducible refine ((T2 _).out).mono ?_); rintro e w' ⟨rfl, rfl⟩) | (have _t := tok1; go_at_call 92; (with_reducible refine ((T3 _).out).mono ?_); rintro e w1 ⟨rfl, hb1⟩; clear tok1 _t; have hz1 := hb1.size; (try simp only [sA, sB, sC, sD] at hz1); (try (obtain ⟨qa, qb, qc⟩ := cf2 hb1 (w.heap.size); simp [go_sem, *] at qa qb qc)); (try have qf : w.heap.size < w1.heap.size := by omega)))
  go_ret
  refine ⟨rfl, ?_⟩
  exact bel
 ·rw [h]
  have T3 := fun W : World => Lib.hid (core_any a b W (inB_iff.1 h1) (inB_iff.1 h2))
  rw [h1] at T1
  rw [h2] at T2
  clear h h1 h2
  generalize coV a b = v at *
  have tok1 := trivial
  go_enter Tryz.func70, Tryz.ntmps70
  go_wp2_with (first | (go_at_call 55; (with_reducible refine ((T1 _).out).mono ?_); rintro e w' ⟨rfl, rfl⟩) | (go_at_call 55; (with_reducible refine ((T2 _).out).mono ?_); rintro e w' ⟨rfl, rfl⟩) | (have _t := tok1; go_at_call 92; (with_reducible refine ((T3 _).out).mono ?_); rintro e w1 ⟨rfl, hb1⟩; clear tok1 _t; have hz1 := hb1.size; (try simp only [sA, sB, sC, sD] at hz1); (try (obtain ⟨qa, qb, qc⟩ := cf2 hb1 (w.heap.size); simp [go_sem, *] at qa qb qc)); (try have qf : w.heap.size < w1.heap.size := by omega)))
  go_ret
  refine ⟨rfl, ?_⟩
  exact bel
end
section
open Go.RowKit
set_option linter.unusedVariables false
set_option maxHeartbeats 2000000
set_option maxRecDepth 20000
set_option linter.unusedSimpArgs false
attribute [local go_sem] openAt openUpon
def evV (A B x e : Int) : Int := x * x * x + A * x * e * e * e * e + B * e * e * e * e * e * e
theorem evV_spec (A B x e : Int) : x * x * x + A * x * (e * e) * (e * e) + B * (e * e) * (e * e) * (e * e) = evV A B x e := by unfold evV; grind
theorem evV_bd {A B x e : Int} (hA : -1000 ≤ A ∧ A ≤ 1000) (hB : -10000 ≤ B ∧ B ≤ 10000) (hx : -10000 ≤ x ∧ x ≤ 10000) (he : -20 ≤ e ∧ e ≤ 20) : -3240000000000 ≤ evV A B x e ∧ evV A B x e ≤ 3240000000000 := by
 have m1 := mul_bd (a := x) (b := x) (A := 10000) (B := 10000) (by omega) (by omega)
 have m2 := mul_bd (a := x * x) (b := x) (A := 100000000) (B := 10000) (by omega) (by omega)
 have n1 := mul_bd (a := A) (b := x) (A := 1000) (B := 10000) (by omega) (by omega)
 have n2 := mul_bd (a := A * x) (b := e) (A := 10000000) (B := 20) (by omega) (by omega)
 have n3 := mul_bd (a := A * x * e) (b := e) (A := 200000000) (B := 20) (by omega) (by omega)
 have n4 := mul_bd (a := A * x * e * e) (b := e) (A := 4000000000) (B := 20) (by omega) (by omega)
 have n5 := mul_bd (a := A * x * e * e * e) (b := e) (A := 80000000000) (B := 20) (by omega) (by omega)
 have l1 := mul_bd (a := B) (b := e) (A := 10000) (B := 20) (by omega) (by omega)
 have l2 := mul_bd (a := B * e) (b := e) (A := 200000) (B := 20) (by omega) (by omega)
 have l3 := mul_bd (a := B * e * e) (b := e) (A := 4000000) (B := 20) (by omega) (by omega)
 have l4 := mul_bd (a := B * e * e * e) (b := e) (A := 80000000) (B := 20) (by omega) (by omega)
 have l5 := mul_bd (a := B * e * e * e * e) (b := e) (A := 1600000000) (B := 20) (by omega) (by omega)
 have l6 := mul_bd (a := B * e * e * e * e * e) (b := e) (A := 32000000000) (B := 20) (by omega) (by omega)
 unfold evV; omega
theorem root_bd {y v : Int} (h : y * y = v) (hv : v ≤ 3240000000000) : -3000000 ≤ y ∧ y ≤ 3000000 := by
 constructor
 ·refine Int.not_lt.1 fun h2 => ?_
  have this : 3000001 * 3000001 ≤ -y * -y := Int.mul_le_mul (by omega) (by omega) (by omega) (by omega)
  rw [Int.neg_mul_neg, h] at this
  omega
 ·refine Int.not_lt.1 fun h2 => ?_
  have this : 3000001 * 3000001 ≤ y * y := Int.mul_le_mul (by omega) (by omega) (by omega) (by omega)
  rw [h] at this
  omega
def ptB (A B x y e : Int) : Bool := if e = 0 then decide (x = 0) && decide (y = 0) else inB x (-10000) 10000 && (inB e 1 20 && (decide (gcdI x e = 1) && decide (y * y = evV A B x e)))
theorem ptB_far {A B x y e L : Int} (hL : 3000000 ≤ L) (hA : -1000 ≤ A ∧ A ≤ 1000) (hB : -10000 ≤ B ∧ B ≤ 10000) (hx : inB x (-10000) 10000 = true) (he : inB e 1 20 = true) (hy : inB y (-L) L = false) : decide (y * y = evV A B x e) = false := by
 simp only [decide_eq_false_iff_not]
 intro h
 have h1 := inB_iff.1 hx
 have h2 := inB_iff.1 he
 have h3 := evV_bd hA hB h1 (e := e) (by omega)
 have h4 := root_bd h h3.2
 have h5 := inB_false.1 hy
 omega
theorem ptValue_any (A B x e : Int) (w : World) (hA : -1000 ≤ A ∧ A ≤ 1000) (hB : -10000 ≤ B ∧ B ≤ 10000) (hx : -10000 ≤ x ∧ x ≤ 10000) (he : 1 ≤ e ∧ e ≤ 20) : Calls Tryz.prog 74 #[.agg #[.int .i64 A, .int .i64 B], .int .i64 x, .int .i64 e] w fun r w' => r = .returned (.int .i64 (evV A B x e)) ∧ Below w.heap.size w w' := by
 have HV := Lib.hid (evV_spec A B x e)
 have m1 := mul_bd (a := x) (b := x) (A := 10000) (B := 10000) (by omega) (by omega)
 have m2 := mul_bd (a := x * x) (b := x) (A := 100000000) (B := 10000) (by omega) (by omega)
 have n1 := mul_bd (a := A) (b := x) (A := 1000) (B := 10000) (by omega) (by omega)
 have n0 := mul_bd (a := e) (b := e) (A := 20) (B := 20) (by omega) (by omega)
 have n2 := mul_bd (a := A * x) (b := e * e) (A := 10000000) (B := 400) (by omega) (by omega)
 have n3 := mul_bd (a := A * x * (e * e)) (b := e * e) (A := 4000000000) (B := 400) (by omega) (by omega)
 have l1 := mul_bd (a := B) (b := e * e) (A := 10000) (B := 400) (by omega) (by omega)
 have l2 := mul_bd (a := B * (e * e)) (b := e * e) (A := 4000000) (B := 400) (by omega) (by omega)
 have l3 := mul_bd (a := B * (e * e) * (e * e)) (b := e * e) (A := 1600000000) (B := 400) (by omega) (by omega)
 go_enter Tryz.func74, Tryz.ntmps74
 go_wp2_with fail
 go_ret
 refine ⟨ret_int HV.out, ?_⟩
 exact bel
theorem curveValue_any (A B x e : Int) (w : World) (hA : -1000 ≤ A ∧ A ≤ 1000) (hB : -10000 ≤ B ∧ B ≤ 10000) (hx : -10000 ≤ x ∧ x ≤ 10000) (he : -20 ≤ e ∧ e ≤ 20) : Calls Tryz.prog 75 #[.agg #[.int .i64 A, .int .i64 B], .int .i64 x, .int .i64 e] w fun r w' => r = .returned (.int .i64 (evV A B x e)) ∧ Below w.heap.size w w' := by
 have m1 := mul_bd (a := x) (b := x) (A := 10000) (B := 10000) (by omega) (by omega)
 have m2 := mul_bd (a := x * x) (b := x) (A := 100000000) (B := 10000) (by omega) (by omega)
 have n1 := mul_bd (a := A) (b := x) (A := 1000) (B := 10000) (by omega) (by omega)
 have n2 := mul_bd (a := A * x) (b := e) (A := 10000000) (B := 20) (by omega) (by omega)
 have n3 := mul_bd (a := A * x * e) (b := e) (A := 200000000) (B := 20) (by omega) (by omega)
 have n4 := mul_bd (a := A * x * e * e) (b := e) (A := 4000000000) (B := 20) (by omega) (by omega)
 have n5 := mul_bd (a := A * x * e * e * e) (b := e) (A := 80000000000) (B := 20) (by omega) (by omega)
 have l1 := mul_bd (a := B) (b := e) (A := 10000) (B := 20) (by omega) (by omega)
 have l2 := mul_bd (a := B * e) (b := e) (A := 200000) (B := 20) (by omega) (by omega)
 have l3 := mul_bd (a := B * e * e) (b := e) (A := 4000000) (B := 20) (by omega) (by omega)
 have l4 := mul_bd (a := B * e * e * e) (b := e) (A := 80000000) (B := 20) (by omega) (by omega)
 have l5 := mul_bd (a := B * e * e * e * e) (b := e) (A := 1600000000) (B := 20) (by omega) (by omega)
 have l6 := mul_bd (a := B * e * e * e * e * e) (b := e) (A := 32000000000) (B := 20) (by omega) (by omega)
 go_enter Tryz.func75, Tryz.ntmps75
 go_wp2_with fail
 go_ret
 refine ⟨rfl, ?_⟩
 exact bel
theorem ptOn_any (A B x y e : Int) (w : World) (hA : -1000 ≤ A ∧ A ≤ 1000) (hB : -10000 ≤ B ∧ B ≤ 10000) : Calls Tryz.prog 85 #[.agg #[.int .i64 A, .int .i64 B], .agg #[.int .i64 x, .int .i64 y, .int .i64 e]] w fun r w' => r = .returned (.bool (ptB A B x y e)) ∧ Below w.heap.size w w' := by
 by_cases he : e = 0
 ·subst he
  have HP := Lib.hid (show ptB A B x y 0 = (decide (x = 0) && decide (y = 0)) by simp [ptB])
  by_cases hx : x = 0
  ·subst hx
   go_enter Tryz.func85, Tryz.ntmps85
   go_wp2_with fail
   go_ret
   refine ⟨ret_bool (by rw [HP.out]; by_cases hy : y = 0 <;> simp [hy]), ?_⟩
   exact bel
  ·go_enter Tryz.func85, Tryz.ntmps85
   go_wp2_with fail
   go_ret
   refine ⟨ret_bool (by rw [HP.out]; simp [hx]), ?_⟩
   exact bel
 ·have HP := Lib.hid (show ptB A B x y e = (inB x (-10000) 10000 && (inB e 1 20 && (decide (gcdI x e = 1) && decide (y * y = evV A B x e)))) by simp [ptB, he])
  cases h1 : inB x (-10000) 10000
  ·rw [h1] at HP
   go_enter Tryz.func85, Tryz.ntmps85
   go_wp2_with fail
   go_quiet ((go_at_call 48; exact Calls.quiet_of_same ((l1In_any _ _ _ _).mono fun _ _ ⟨a, b⟩ => ⟨a, b.symm⟩)))
   go_wp2_with fail
   go_ret
   refine ⟨ret_bool (by rw [HP.out]; simp), ?_⟩
   exact bel
  ·cases h2 : inB e 1 20
   ·rw [h1, h2] at HP
    go_enter Tryz.func85, Tryz.ntmps85
    go_wp2_with fail
    go_quiet ((go_at_call 48; exact Calls.quiet_of_same ((l1In_any _ _ _ _).mono fun _ _ ⟨a, b⟩ => ⟨a, b.symm⟩)))
    go_wp2_with fail
    go_ret
    refine ⟨ret_bool (by rw [HP.out]; simp), ?_⟩
    exact bel
   ·cases h3 : inB y (-10000000) 10000000
    ·rw [ptB_far (L := 10000000) (by omega) hA hB h1 h2 h3] at HP
     go_enter Tryz.func85, Tryz.ntmps85
     go_wp2_with fail
     go_quiet ((go_at_call 48; exact Calls.quiet_of_same ((l1In_any _ _ _ _).mono fun _ _ ⟨a, b⟩ => ⟨a, b.symm⟩)))
     go_wp2_with fail
     go_ret
     refine ⟨ret_bool (by rw [HP.out]; simp), ?_⟩
     exact bel
    ·have b1 := inB_iff.1 h1
     have b2 := inB_iff.1 h2
     have b3 := inB_iff.1 h3
     have h5 := absI_nonneg x
     have h6 : absI x ≤ 10000 := absI_le (by omega) (by omega)
     have m := mul_bd (a := y) (b := y) (A := 10000000) (B := 10000000) (by omega) (by omega)
     have T5 := fun W : World => Lib.hid (ptValue_any A B x e W hA hB b1 b2)
     rw [h1, h2, ← gcdI_abs] at HP
     by_cases h4 : gcdI (absI x) e = 1
     ·rw [h4] at HP
      go_enter Tryz.func85, Tryz.ntmps85
      go_wp2_with fail
      go_quiet ((first | (go_at_call 48; exact Calls.quiet_of_same ((l1In_any _ _ _ _).mono fun _ _ ⟨a, b⟩ => ⟨a, b.symm⟩)) | (go_at_call 73; exact Calls.quiet_of_same ((l1Abs_any _ _ (by omega) (by omega)).mono fun _ _ ⟨a, b⟩ => ⟨a, b.symm⟩)) | (go_at_call 72; exact Calls.quiet_of_same ((common_any _ _ _ (by omega) (by omega) (by omega) (by omega)).mono fun _ _ ⟨a, b⟩ => ⟨a, b.symm⟩))))
      go_wp2_with fail
      simp only [h1, h2, h3, h4]
      clear h1 h2 h3 h4
      refine wp_open (n := 12) (by kernel_rfl) (by kernel_rfl) (by kernel_rfl) (by kernel_rfl) ?_
      simp only [List.take_succ_cons, List.take_zero]
      apply wpS_quiet
      ·intro γ W hW hp
       refine ⟨rfl, ?_⟩
       go_big_quiet_op
       first | exact rfl
      ·exact locS_const _
      try simp only [Act.put, List.setIfInBounds_toArray, List.set_cons_succ, List.set_cons_zero, Nat.reduceAdd]
      apply wpS_quiet
      ·intro γ W hW hp
       have hs := hW.size
       (try simp only [sA, sB, sC, sD] at hs)
       try (have qa := xcA hW (w.heap.size) 0; simp [go_sem, *] at qa)
       try (have qb := xcA hW (w.heap.size) 1; simp [go_sem, *] at qb)
       try (have qc := xcA hW (w.heap.size + 1) 0; simp [go_sem, *] at qc)
       try (have qf := xcA hW (w.heap.size + 1) 1; simp [go_sem, *] at qf)
       try (have qg := xcA hW (w.heap.size + 1) 2; simp [go_sem, *] at qg)
       clear hW hp
       refine ⟨rfl, ?_⟩
       go_big_quiet_op
       first | exact rfl
      ·exact locS_const _
      try simp only [Act.put, List.setIfInBounds_toArray, List.set_cons_succ, List.set_cons_zero, Nat.reduceAdd]
      apply wpS_quiet
      ·intro γ W hW hp
       refine ⟨rfl, ?_⟩
       go_big_quiet_op
       first | exact rfl
      ·exact locS_const _
      try simp only [Act.put, List.setIfInBounds_toArray, List.set_cons_succ, List.set_cons_zero, Nat.reduceAdd]
      apply wpS_quiet
      ·intro γ W hW hp
       have hs := hW.size
       (try simp only [sA, sB, sC, sD] at hs)
       try (have qa := xcA hW (w.heap.size) 0; simp [go_sem, *] at qa)
       try (have qb := xcA hW (w.heap.size) 1; simp [go_sem, *] at qb)
       try (have qc := xcA hW (w.heap.size + 1) 0; simp [go_sem, *] at qc)
       try (have qf := xcA hW (w.heap.size + 1) 1; simp [go_sem, *] at qf)
       try (have qg := xcA hW (w.heap.size + 1) 2; simp [go_sem, *] at qg)
       clear hW hp
       refine ⟨rfl, ?_⟩
       go_big_quiet_op
       first | exact rfl
      ·exact locS_const _
      try simp only [Act.put, List.setIfInBounds_toArray, List.set_cons_succ, List.set_cons_zero, Nat.reduceAdd]
      apply wpS_quiet
      ·intro γ W hW hp
       refine ⟨rfl, ?_⟩
       go_big_quiet_op
       first | exact rfl
      ·exact locS_const _
      try simp only [Act.put, List.setIfInBounds_toArray, List.set_cons_succ, List.set_cons_zero, Nat.reduceAdd]
      apply wpS_quiet
      ·intro γ W hW hp
       have hs := hW.size
       (try simp only [sA, sB, sC, sD] at hs)
       try (have qa := xcA hW (w.heap.size) 0; simp [go_sem, *] at qa)
       try (have qb := xcA hW (w.heap.size) 1; simp [go_sem, *] at qb)
       try (have qc := xcA hW (w.heap.size + 1) 0; simp [go_sem, *] at qc)
       try (have qf := xcA hW (w.heap.size + 1) 1; simp [go_sem, *] at qf)
       try (have qg := xcA hW (w.heap.size + 1) 2; simp [go_sem, *] at qg)
       clear hW hp
       refine ⟨rfl, ?_⟩
       go_big_quiet_op
       first | exact rfl
      ·exact locS_const _
      try simp only [Act.put, List.setIfInBounds_toArray, List.set_cons_succ, List.set_cons_zero, Nat.reduceAdd]
      apply wpS_quiet
      ·intro γ W hW hp
       refine ⟨rfl, ?_⟩
       go_big_quiet_op
       first | exact rfl
      ·exact locS_const _
      try simp only [Act.put, List.setIfInBounds_toArray, List.set_cons_succ, List.set_cons_zero, Nat.reduceAdd]
      apply wpS_quiet
      ·intro γ W hW hp
       have hs := hW.size
       (try simp only [sA, sB, sC, sD] at hs)
       try (have qa := xcA hW (w.heap.size) 0; simp [go_sem, *] at qa)
       try (have qb := xcA hW (w.heap.size) 1; simp [go_sem, *] at qb)
       try (have qc := xcA hW (w.heap.size + 1) 0; simp [go_sem, *] at qc)
       try (have qf := xcA hW (w.heap.size + 1) 1; simp [go_sem, *] at qf)
       try (have qg := xcA hW (w.heap.size + 1) 2; simp [go_sem, *] at qg)
       clear hW hp
       refine ⟨rfl, ?_⟩
       go_big_quiet_op
       first | exact rfl
      ·exact locS_const _
      try simp only [Act.put, List.setIfInBounds_toArray, List.set_cons_succ, List.set_cons_zero, Nat.reduceAdd]
      apply wpS_quiet
      ·intro γ W hW hp
       refine ⟨rfl, ?_⟩
       go_big_quiet_op
       first | exact rfl
      ·exact locS_const _
      try simp only [Act.put, List.setIfInBounds_toArray, List.set_cons_succ, List.set_cons_zero, Nat.reduceAdd]
      apply wpS_quiet
      ·intro γ W hW hp
       have hs := hW.size
       (try simp only [sA, sB, sC, sD] at hs)
       try (have qa := xcA hW (w.heap.size) 0; simp [go_sem, *] at qa)
       try (have qb := xcA hW (w.heap.size) 1; simp [go_sem, *] at qb)
       try (have qc := xcA hW (w.heap.size + 1) 0; simp [go_sem, *] at qc)
       try (have qf := xcA hW (w.heap.size + 1) 1; simp [go_sem, *] at qf)
       try (have qg := xcA hW (w.heap.size + 1) 2; simp [go_sem, *] at qg)
       clear hW hp
       refine ⟨rfl, ?_⟩
       go_big_quiet_op
       first | exact rfl
      ·exact locS_const _
      try simp only [Act.put, List.setIfInBounds_toArray, List.set_cons_succ, List.set_cons_zero, Nat.reduceAdd]
      apply wpS_quiet
      ·intro γ W hW hp
       refine ⟨rfl, ?_⟩
       go_big_quiet_op
       apply Exists.intro
       refine ⟨fun x => ?_, ?_⟩
       ·(first | (go_at_call 74; (with_reducible exact draw_of _ ((T5 _).out))))
       exact rfl
      ·exact locS_const _
      try simp only [Act.put, List.setIfInBounds_toArray, List.set_cons_succ, List.set_cons_zero, Nat.reduceAdd]
      apply wpS_quiet
      ·intro γ W hW hp
       refine ⟨rfl, ?_⟩
       go_big_quiet_op
       first | exact rfl
      ·exact locS_const _
      try simp only [Act.put, List.setIfInBounds_toArray, List.set_cons_succ, List.set_cons_zero, Nat.reduceAdd]
      apply wpS_end
      intro γ w1 hb1 hG1 hA1
      clear hG1 hA1
      simp only [List.drop_succ_cons, List.drop_zero]
      have hz1 := hb1.size
      (try simp only [sA, sB, sC, sD] at hz1)
      (try (obtain ⟨qh, qi, qm⟩ := cf2 hb1 (w.heap.size); simp [go_sem, *] at qh qi qm))
      (try have qq : w.heap.size < w1.heap.size := by omega)
      (try (obtain ⟨qj, qk, ql, qp⟩ := cf3 hb1 (w.heap.size + 1); simp [go_sem, *] at qj qk ql qp))
      (try have qr : w.heap.size + 1 < w1.heap.size := by omega)
      go_wp2_with fail
      go_ret
      refine ⟨ret_bool (by rw [HP.out]; by_cases hv : y * y = evV A B x e <;> simp [hv]), ?_⟩
      exact bel
     ·go_enter Tryz.func85, Tryz.ntmps85
      go_wp2_with fail
      go_quiet ((first | (go_at_call 48; exact Calls.quiet_of_same ((l1In_any _ _ _ _).mono fun _ _ ⟨a, b⟩ => ⟨a, b.symm⟩)) | (go_at_call 73; exact Calls.quiet_of_same ((l1Abs_any _ _ (by omega) (by omega)).mono fun _ _ ⟨a, b⟩ => ⟨a, b.symm⟩)) | (go_at_call 72; exact Calls.quiet_of_same ((common_any _ _ _ (by omega) (by omega) (by omega) (by omega)).mono fun _ _ ⟨a, b⟩ => ⟨a, b.symm⟩))))
      go_wp2_with fail
      go_ret
      refine ⟨ret_bool (by rw [HP.out]; simp [h4]), ?_⟩
      exact bel
theorem IsPointOf_any (A B x y e : Int) (w : World) : Calls Tryz.prog 53 #[.agg #[.int .i64 A, .int .i64 B], .agg #[.int .i64 x, .int .i64 y, .int .i64 e]] w fun r w' => r = .returned (.bool (cvB A B && ptB A B x y e)) ∧ Below w.heap.size w w' := by
 have T1 := fun W : World => Lib.hid (ecGood_any A B W)
 cases h1 : cvB A B
 ·rw [h1] at T1
  have T2 := T1
  clear h1
  have tok1 := trivial
  have tok2 := trivial
  go_enter Tryz.func53, Tryz.ntmps53
  go_wp2_with (first | (have _t := tok1; go_at_call 43; (with_reducible refine ((T1 _).out).mono ?_); rintro e w1 ⟨rfl, hb1⟩; clear tok1 _t; have hz1 := hb1.size; (try simp only [sA, sB, sC, sD] at hz1); (try (obtain ⟨qa, qb, qh⟩ := cf2 hb1 (w.heap.size); simp [go_sem, *] at qa qb qh)); (try have qq : w.heap.size < w1.heap.size := by omega); (try (obtain ⟨qc, qf, qg, qi⟩ := cf3 hb1 (w.heap.size + 1); simp [go_sem, *] at qc qf qg qi)); (try have qr : w.heap.size + 1 < w1.heap.size := by omega)) | (have _t := tok2; go_at_call 85; (with_reducible refine ((T2 _).out).mono ?_); rintro e w2 ⟨rfl, hb2⟩; clear tok2 _t; have hz2 := hb2.size; (try simp only [sA, sB, sC, sD] at hz2); (try (obtain ⟨qj, qk, qt⟩ := cf2 hb2 (w.heap.size); simp [go_sem, *] at qj qk qt)); (try have qw : w.heap.size < w2.heap.size := by omega); (try (obtain ⟨ql, qm, qp, qu⟩ := cf3 hb2 (w.heap.size + 1); simp [go_sem, *] at ql qm qp qu)); (try have qz : w.heap.size + 1 < w2.heap.size := by omega); (try clear qa qb qh); (try clear qq); (try clear qc qf qg qi); (try clear qr)))
  go_ret
  refine ⟨rfl, ?_⟩
  exact bel
 ·have hc := cvB_bd h1
  have T2 := fun W : World => Lib.hid (ptOn_any A B x y e W hc.1 hc.2.1)
  rw [h1] at T1
  clear h1 hc
  generalize ptB A B x y e = v at *
  have tok1 := trivial
  have tok2 := trivial
  go_enter Tryz.func53, Tryz.ntmps53
  go_wp2_with (first | (have _t := tok1; go_at_call 43; (with_reducible refine ((T1 _).out).mono ?_); rintro e w1 ⟨rfl, hb1⟩; clear tok1 _t; have hz1 := hb1.size; (try simp only [sA, sB, sC, sD] at hz1); (try (obtain ⟨qa, qb, qh⟩ := cf2 hb1 (w.heap.size); simp [go_sem, *] at qa qb qh)); (try have qq : w.heap.size < w1.heap.size := by omega); (try (obtain ⟨qc, qf, qg, qi⟩ := cf3 hb1 (w.heap.size + 1); simp [go_sem, *] at qc qf qg qi)); (try have qr : w.heap.size + 1 < w1.heap.size := by omega)) | (have _t := tok2; go_at_call 85; (with_reducible refine ((T2 _).out).mono ?_); rintro e w2 ⟨rfl, hb2⟩; clear tok2 _t; have hz2 := hb2.size; (try simp only [sA, sB, sC, sD] at hz2); (try (obtain ⟨qj, qk, qt⟩ := cf2 hb2 (w.heap.size); simp [go_sem, *] at qj qk qt)); (try have qw : w.heap.size < w2.heap.size := by omega); (try (obtain ⟨ql, qm, qp, qu⟩ := cf3 hb2 (w.heap.size + 1); simp [go_sem, *] at ql qm qp qu)); (try have qz : w.heap.size + 1 < w2.heap.size := by omega); (try clear qa qb qh); (try clear qq); (try clear qc qf qg qi); (try clear qr)))
  go_ret
  refine ⟨by rw [Bool.true_and]; rfl, ?_⟩
  exact bel
theorem eql_point (x y e : Int) (W : World) : (binOp .eql 45 (.agg #[.int .i64 x, .int .i64 y, .int .i64 e]) (.agg #[.int .i64 0, .int .i64 0, .int .i64 0])).run Tryz.prog W = .ok (.bool (decide (x = 0 ∧ y = 0 ∧ e = 0))) W := by
 by_cases hx : x = 0
 ·by_cases hy : y = 0
  ·by_cases he : e = 0 <;> simp [go_sem, hx, hy, he]
  ·simp [go_sem, hx, hy]
 ·simp [go_sem, hx]
theorem isPoint_any (A B x y e : Int) (w : World) : Calls Tryz.prog 51 #[.agg #[.int .i64 A, .int .i64 B], .agg #[.int .i64 x, .int .i64 y, .int .i64 e]] w fun r w' => r = .returned (.bool (cvB A B && ptB A B x y e)) ∧ Below w.heap.size w w' := by
 have T1 := fun W : World => Lib.hid (isCurve_any A B W)
 have T2 := fun W : World => Lib.hid (inside_any x (-10000) 10000 W)
 have T3 := fun W : World => Lib.hid (inside_any e 1 20 W)
 have T4 := fun W : World => Lib.hid (inside_any y (-3000000) 3000000 W)
 cases h0 : cvB A B
 ·rw [h0] at T1
  clear h0
  have tok1 := trivial
  go_enter Tryz.func51, Tryz.ntmps51
  go_wp2_with (first | (have _t := tok1; go_at_call 70; (with_reducible refine ((T1 _).out).mono ?_); rintro e w1 ⟨rfl, hb1⟩; clear tok1 _t; have hz1 := hb1.size; (try simp only [sA, sB, sC, sD] at hz1); (try (obtain ⟨qa, qb, qh⟩ := cf2 hb1 (w.heap.size); simp [go_sem, *] at qa qb qh)); (try have qq : w.heap.size < w1.heap.size := by omega); (try (obtain ⟨qc, qf, qg, qi⟩ := cf3 hb1 (w.heap.size + 1); simp [go_sem, *] at qc qf qg qi)); (try have qr : w.heap.size + 1 < w1.heap.size := by omega)) | (go_at_call 55; (with_reducible refine ((T2 _).out).mono ?_); rintro e w' ⟨rfl, rfl⟩) | (go_at_call 55; (with_reducible refine ((T3 _).out).mono ?_); rintro e w' ⟨rfl, rfl⟩) | (go_at_call 55; (with_reducible refine ((T4 _).out).mono ?_); rintro e w' ⟨rfl, rfl⟩) | (go_at_call 56; refine (gcd_any _ _ _ (by omega) (by omega) (by omega) (by omega)).mono ?_; rintro e w' ⟨rfl, nq, rfl⟩))
  go_ret
  refine ⟨rfl, ?_⟩
  exact bel
 ·rw [h0] at T1
  have hc := cvB_bd h0
  have hA := hc.1
  have hB := hc.2.1
  clear hc h0
  rw [Bool.true_and]
  by_cases hz : x = 0 ∧ y = 0 ∧ e = 0
  ·obtain ⟨rfl, rfl, rfl⟩ := hz
   have tok1 := trivial
   go_enter Tryz.func51, Tryz.ntmps51
   go_wp2_with (first | (have _t := tok1; go_at_call 70; (with_reducible refine ((T1 _).out).mono ?_); rintro e w1 ⟨rfl, hb1⟩; clear tok1 _t; have hz1 := hb1.size; (try simp only [sA, sB, sC, sD] at hz1); (try (obtain ⟨qa, qb, qh⟩ := cf2 hb1 (w.heap.size); simp [go_sem, *] at qa qb qh)); (try have qq : w.heap.size < w1.heap.size := by omega); (try (obtain ⟨qc, qf, qg, qi⟩ := cf3 hb1 (w.heap.size + 1); simp [go_sem, *] at qc qf qg qi)); (try have qr : w.heap.size + 1 < w1.heap.size := by omega)) | (go_at_call 55; (with_reducible refine ((T2 _).out).mono ?_); rintro e w' ⟨rfl, rfl⟩) | (go_at_call 55; (with_reducible refine ((T3 _).out).mono ?_); rintro e w' ⟨rfl, rfl⟩) | (go_at_call 55; (with_reducible refine ((T4 _).out).mono ?_); rintro e w' ⟨rfl, rfl⟩) | (go_at_call 56; refine (gcd_any _ _ _ (by omega) (by omega) (by omega) (by omega)).mono ?_; rintro e w' ⟨rfl, nq, rfl⟩))
   go_ret
   refine ⟨ret_bool (by simp [ptB]), ?_⟩
   exact bel
  ·have hq := fun (W : World) => eql_point x y e W
   rw [show decide (x = 0 ∧ y = 0 ∧ e = 0) = false by simpa using hz] at hq
   cases h1 : inB x (-10000) 10000
   ·have HP := Lib.hid (show ptB A B x y e = false by unfold ptB; have := inB_false.1 h1; split <;> simp [h1]; omega)
    rw [h1] at T2
    clear h1 hz
    have tok1 := trivial
    go_enter Tryz.func51, Tryz.ntmps51
    go_wp2_with (first | (have _t := tok1; go_at_call 70; (with_reducible refine ((T1 _).out).mono ?_); rintro e w1 ⟨rfl, hb1⟩; clear tok1 _t; have hz1 := hb1.size; (try simp only [sA, sB, sC, sD] at hz1); (try (obtain ⟨qa, qb, qh⟩ := cf2 hb1 (w.heap.size); simp [go_sem, *] at qa qb qh)); (try have qq : w.heap.size < w1.heap.size := by omega); (try (obtain ⟨qc, qf, qg, qi⟩ := cf3 hb1 (w.heap.size + 1); simp [go_sem, *] at qc qf qg qi)); (try have qr : w.heap.size + 1 < w1.heap.size := by omega)) | (go_at_call 55; (with_reducible refine ((T2 _).out).mono ?_); rintro e w' ⟨rfl, rfl⟩) | (go_at_call 55; (with_reducible refine ((T3 _).out).mono ?_); rintro e w' ⟨rfl, rfl⟩) | (go_at_call 55; (with_reducible refine ((T4 _).out).mono ?_); rintro e w' ⟨rfl, rfl⟩) | (go_at_call 56; refine (gcd_any _ _ _ (by omega) (by omega) (by omega) (by omega)).mono ?_; rintro e w' ⟨rfl, nq, rfl⟩))
    go_ret
    refine ⟨ret_bool HP.out.symm, ?_⟩
    exact bel
   ·rw [h1] at T2
    cases h2 : inB e 1 20
    ·have HP := Lib.hid (show ptB A B x y e = false by unfold ptB; split <;> simp [h2]; omega)
     rw [h2] at T3
     clear h1 h2 hz
     have tok1 := trivial
     go_enter Tryz.func51, Tryz.ntmps51
     go_wp2_with (first | (have _t := tok1; go_at_call 70; (with_reducible refine ((T1 _).out).mono ?_); rintro e w1 ⟨rfl, hb1⟩; clear tok1 _t; have hz1 := hb1.size; (try simp only [sA, sB, sC, sD] at hz1); (try (obtain ⟨qa, qb, qh⟩ := cf2 hb1 (w.heap.size); simp [go_sem, *] at qa qb qh)); (try have qq : w.heap.size < w1.heap.size := by omega); (try (obtain ⟨qc, qf, qg, qi⟩ := cf3 hb1 (w.heap.size + 1); simp [go_sem, *] at qc qf qg qi)); (try have qr : w.heap.size + 1 < w1.heap.size := by omega)) | (go_at_call 55; (with_reducible refine ((T2 _).out).mono ?_); rintro e w' ⟨rfl, rfl⟩) | (go_at_call 55; (with_reducible refine ((T3 _).out).mono ?_); rintro e w' ⟨rfl, rfl⟩) | (go_at_call 55; (with_reducible refine ((T4 _).out).mono ?_); rintro e w' ⟨rfl, rfl⟩) | (go_at_call 56; refine (gcd_any _ _ _ (by omega) (by omega) (by omega) (by omega)).mono ?_; rintro e w' ⟨rfl, nq, rfl⟩))
     go_ret
     refine ⟨ret_bool HP.out.symm, ?_⟩
     exact bel
    ·rw [h2] at T3
     have b1 := inB_iff.1 h1
     have b2 := inB_iff.1 h2
     have HP := Lib.hid (show ptB A B x y e = (decide (gcdI x e = 1) && decide (y * y = evV A B x e)) by unfold ptB; rw [if_neg (by omega), h1, h2, Bool.true_and, Bool.true_and])
     by_cases h4 : gcdI x e = 1
     ·rw [h4] at HP
      cases h3 : inB y (-3000000) 3000000
      ·rw [h3] at T4
       rw [ptB_far (L := 3000000) (by omega) hA hB h1 h2 h3] at HP
       clear h1 h2 h3 hz
       have tok1 := trivial
       go_enter Tryz.func51, Tryz.ntmps51
       go_wp2_with (first | (have _t := tok1; go_at_call 70; (with_reducible refine ((T1 _).out).mono ?_); rintro e w1 ⟨rfl, hb1⟩; clear tok1 _t; have hz1 := hb1.size; (try simp only [sA, sB, sC, sD] at hz1); (try (obtain ⟨qa, qb, qh⟩ := cf2 hb1 (w.heap.size); simp [go_sem, *] at qa qb qh)); (try have qq : w.heap.size < w1.heap.size := by omega); (try (obtain ⟨qc, qf, qg, qi⟩ := cf3 hb1 (w.heap.size + 1); simp [go_sem, *] at qc qf qg qi)); (try have qr : w.heap.size + 1 < w1.heap.size := by omega)) | (go_at_call 55; (with_reducible refine ((T2 _).out).mono ?_); rintro e w' ⟨rfl, rfl⟩) | (go_at_call 55; (with_reducible refine ((T3 _).out).mono ?_); rintro e w' ⟨rfl, rfl⟩) | (go_at_call 55; (with_reducible refine ((T4 _).out).mono ?_); rintro e w' ⟨rfl, rfl⟩) | (go_at_call 56; refine (gcd_any _ _ _ (by omega) (by omega) (by omega) (by omega)).mono ?_; rintro e w' ⟨rfl, nq, rfl⟩))
       go_ret
       refine ⟨ret_bool (by rw [HP.out]; simp), ?_⟩
       exact bel
      ·rw [h3] at T4
       have b3 := inB_iff.1 h3
       have m := mul_bd (a := y) (b := y) (A := 3000000) (B := 3000000) (by omega) (by omega)
       have T5 := fun W : World => Lib.hid (curveValue_any A B x e W hA hB b1 (by omega))
       clear h1 h2 h3 hz
       have tok1 := trivial
       go_enter Tryz.func51, Tryz.ntmps51
       go_wp2_with (first | (have _t := tok1; go_at_call 70; (with_reducible refine ((T1 _).out).mono ?_); rintro e w1 ⟨rfl, hb1⟩; clear tok1 _t; have hz1 := hb1.size; (try simp only [sA, sB, sC, sD] at hz1); (try (obtain ⟨qa, qb, qh⟩ := cf2 hb1 (w.heap.size); simp [go_sem, *] at qa qb qh)); (try have qq : w.heap.size < w1.heap.size := by omega); (try (obtain ⟨qc, qf, qg, qi⟩ := cf3 hb1 (w.heap.size + 1); simp [go_sem, *] at qc qf qg qi)); (try have qr : w.heap.size + 1 < w1.heap.size := by omega)) | (go_at_call 55; (with_reducible refine ((T2 _).out).mono ?_); rintro e w' ⟨rfl, rfl⟩) | (go_at_call 55; (with_reducible refine ((T3 _).out).mono ?_); rintro e w' ⟨rfl, rfl⟩) | (go_at_call 55; (with_reducible refine ((T4 _).out).mono ?_); rintro e w' ⟨rfl, rfl⟩) | (go_at_call 56; refine (gcd_any _ _ _ (by omega) (by omega) (by omega) (by omega)).mono ?_; rintro e w' ⟨rfl, nq, rfl⟩))
       refine wp_open (n := 12) (by kernel_rfl) (by kernel_rfl) (by kernel_rfl) (by kernel_rfl) ?_
       simp only [List.take_succ_cons, List.take_zero]
       apply wpS_quiet
       ·intro γ W hW hp
        refine ⟨rfl, ?_⟩
        go_big_quiet_op
        first | exact rfl
       ·exact locS_const _
       try simp only [Act.put, List.setIfInBounds_toArray, List.set_cons_succ, List.set_cons_zero, Nat.reduceAdd]
       apply wpS_quiet
       ·intro γ W hW hp
        have hs := hW.size
        (try simp only [sA, sB, sC, sD] at hs)
        try (have qj := xcA hW (w.heap.size) 0; simp [go_sem, *] at qj)
        try (have qk := xcA hW (w.heap.size) 1; simp [go_sem, *] at qk)
        try (have ql := xcA hW (w.heap.size + 1) 0; simp [go_sem, *] at ql)
        try (have qm := xcA hW (w.heap.size + 1) 1; simp [go_sem, *] at qm)
        try (have qp := xcA hW (w.heap.size + 1) 2; simp [go_sem, *] at qp)
        clear hW hp
        refine ⟨rfl, ?_⟩
        go_big_quiet_op
        first | exact rfl
       ·exact locS_const _
       try simp only [Act.put, List.setIfInBounds_toArray, List.set_cons_succ, List.set_cons_zero, Nat.reduceAdd]
       apply wpS_quiet
       ·intro γ W hW hp
        refine ⟨rfl, ?_⟩
        go_big_quiet_op
        first | exact rfl
       ·exact locS_const _
       try simp only [Act.put, List.setIfInBounds_toArray, List.set_cons_succ, List.set_cons_zero, Nat.reduceAdd]
       apply wpS_quiet
       ·intro γ W hW hp
        have hs := hW.size
        (try simp only [sA, sB, sC, sD] at hs)
        try (have qj := xcA hW (w.heap.size) 0; simp [go_sem, *] at qj)
        try (have qk := xcA hW (w.heap.size) 1; simp [go_sem, *] at qk)
        try (have ql := xcA hW (w.heap.size + 1) 0; simp [go_sem, *] at ql)
        try (have qm := xcA hW (w.heap.size + 1) 1; simp [go_sem, *] at qm)
        try (have qp := xcA hW (w.heap.size + 1) 2; simp [go_sem, *] at qp)
        clear hW hp
        refine ⟨rfl, ?_⟩
        go_big_quiet_op
        first | exact rfl
       ·exact locS_const _
       try simp only [Act.put, List.setIfInBounds_toArray, List.set_cons_succ, List.set_cons_zero, Nat.reduceAdd]
       apply wpS_quiet
       ·intro γ W hW hp
        refine ⟨rfl, ?_⟩
        go_big_quiet_op
        first | exact rfl
       ·exact locS_const _
       try simp only [Act.put, List.setIfInBounds_toArray, List.set_cons_succ, List.set_cons_zero, Nat.reduceAdd]
       apply wpS_quiet
       ·intro γ W hW hp
        have hs := hW.size
        (try simp only [sA, sB, sC, sD] at hs)
        try (have qj := xcA hW (w.heap.size) 0; simp [go_sem, *] at qj)
        try (have qk := xcA hW (w.heap.size) 1; simp [go_sem, *] at qk)
        try (have ql := xcA hW (w.heap.size + 1) 0; simp [go_sem, *] at ql)
        try (have qm := xcA hW (w.heap.size + 1) 1; simp [go_sem, *] at qm)
        try (have qp := xcA hW (w.heap.size + 1) 2; simp [go_sem, *] at qp)
        clear hW hp
        refine ⟨rfl, ?_⟩
        go_big_quiet_op
        first | exact rfl
       ·exact locS_const _
       try simp only [Act.put, List.setIfInBounds_toArray, List.set_cons_succ, List.set_cons_zero, Nat.reduceAdd]
       apply wpS_quiet
       ·intro γ W hW hp
        refine ⟨rfl, ?_⟩
        go_big_quiet_op
        first | exact rfl
       ·exact locS_const _
       try simp only [Act.put, List.setIfInBounds_toArray, List.set_cons_succ, List.set_cons_zero, Nat.reduceAdd]
       apply wpS_quiet
       ·intro γ W hW hp
        have hs := hW.size
        (try simp only [sA, sB, sC, sD] at hs)
        try (have qj := xcA hW (w.heap.size) 0; simp [go_sem, *] at qj)
        try (have qk := xcA hW (w.heap.size) 1; simp [go_sem, *] at qk)
        try (have ql := xcA hW (w.heap.size + 1) 0; simp [go_sem, *] at ql)
        try (have qm := xcA hW (w.heap.size + 1) 1; simp [go_sem, *] at qm)
        try (have qp := xcA hW (w.heap.size + 1) 2; simp [go_sem, *] at qp)
        clear hW hp
        refine ⟨rfl, ?_⟩
        go_big_quiet_op
        first | exact rfl
       ·exact locS_const _
       try simp only [Act.put, List.setIfInBounds_toArray, List.set_cons_succ, List.set_cons_zero, Nat.reduceAdd]
       apply wpS_quiet
       ·intro γ W hW hp
        refine ⟨rfl, ?_⟩
        go_big_quiet_op
        first | exact rfl
       ·exact locS_const _
       try simp only [Act.put, List.setIfInBounds_toArray, List.set_cons_succ, List.set_cons_zero, Nat.reduceAdd]
       apply wpS_quiet
       ·intro γ W hW hp
        have hs := hW.size
        (try simp only [sA, sB, sC, sD] at hs)
        try (have qj := xcA hW (w.heap.size) 0; simp [go_sem, *] at qj)
        try (have qk := xcA hW (w.heap.size) 1; simp [go_sem, *] at qk)
        try (have ql := xcA hW (w.heap.size + 1) 0; simp [go_sem, *] at ql)
        try (have qm := xcA hW (w.heap.size + 1) 1; simp [go_sem, *] at qm)
        try (have qp := xcA hW (w.heap.size + 1) 2; simp [go_sem, *] at qp)
        clear hW hp
        refine ⟨rfl, ?_⟩
        go_big_quiet_op
        first | exact rfl
       ·exact locS_const _
       try simp only [Act.put, List.setIfInBounds_toArray, List.set_cons_succ, List.set_cons_zero, Nat.reduceAdd]
       apply wpS_quiet
       ·intro γ W hW hp
        refine ⟨rfl, ?_⟩
        go_big_quiet_op
        apply Exists.intro
        refine ⟨fun x => ?_, ?_⟩
        ·(first | (go_at_call 75; (with_reducible exact draw_of _ ((T5 _).out))))
        exact rfl
       ·exact locS_const _
       try simp only [Act.put, List.setIfInBounds_toArray, List.set_cons_succ, List.set_cons_zero, Nat.reduceAdd]
       apply wpS_quiet
       ·intro γ W hW hp
        refine ⟨rfl, ?_⟩
        go_big_quiet_op
        first | exact rfl
       ·exact locS_const _
       try simp only [Act.put, List.setIfInBounds_toArray, List.set_cons_succ, List.set_cons_zero, Nat.reduceAdd]
       apply wpS_end
       intro γ w2 hb2 hG2 hA2
       clear hG2 hA2
       simp only [List.drop_succ_cons, List.drop_zero]
       have hz2 := hb2.size
       (try simp only [sA, sB, sC, sD] at hz2)
       (try (obtain ⟨qt, qu, xb⟩ := cf2 hb2 (w.heap.size); simp [go_sem, *] at qt qu xb))
       (try have xe : w.heap.size < w2.heap.size := by omega)
       (try (obtain ⟨qw, qz, xa, xc⟩ := cf3 hb2 (w.heap.size + 1); simp [go_sem, *] at qw qz xa xc))
       (try have xf : w.heap.size + 1 < w2.heap.size := by omega)
       (try clear qa qb qh)
       (try clear qq)
       (try clear qc qf qg qi)
       (try clear qr)
       go_wp2_with fail
       go_ret
       refine ⟨ret_bool (by rw [HP.out]; by_cases hv : y * y = evV A B x e <;> simp [hv]), ?_⟩
       exact bel
     ·clear h1 h2 hz
      have tok1 := trivial
      go_enter Tryz.func51, Tryz.ntmps51
      go_wp2_with (first | (have _t := tok1; go_at_call 70; (with_reducible refine ((T1 _).out).mono ?_); rintro e w1 ⟨rfl, hb1⟩; clear tok1 _t; have hz1 := hb1.size; (try simp only [sA, sB, sC, sD] at hz1); (try (obtain ⟨qa, qb, qh⟩ := cf2 hb1 (w.heap.size); simp [go_sem, *] at qa qb qh)); (try have qq : w.heap.size < w1.heap.size := by omega); (try (obtain ⟨qc, qf, qg, qi⟩ := cf3 hb1 (w.heap.size + 1); simp [go_sem, *] at qc qf qg qi)); (try have qr : w.heap.size + 1 < w1.heap.size := by omega)) | (go_at_call 55; (with_reducible refine ((T2 _).out).mono ?_); rintro e w' ⟨rfl, rfl⟩) | (go_at_call 55; (with_reducible refine ((T3 _).out).mono ?_); rintro e w' ⟨rfl, rfl⟩) | (go_at_call 55; (with_reducible refine ((T4 _).out).mono ?_); rintro e w' ⟨rfl, rfl⟩) | (go_at_call 56; refine (gcd_any _ _ _ (by omega) (by omega) (by omega) (by omega)).mono ?_; rintro e w' ⟨rfl, nq, rfl⟩))
      go_ret
      refine ⟨ret_bool (by rw [HP.out]; simp [h4]), ?_⟩
      exact bel
end
section
open Go.RowKit
set_option linter.unusedVariables false
set_option maxHeartbeats 1000000
set_option maxRecDepth 20000
theorem line (A B X1 Y1 X2 L : Rat) (hA : A = L*(2*Y1 + L*(X2-X1)) - (X1*X1+X1*X2+X2*X2)) (hB : B = Y1*Y1 - X1*X1*X1 - A*X1) (X3 : Rat) (h3 : X3 = L*L-X1-X2) :
  (L*(X1-X3) - Y1)*(L*(X1-X3) - Y1) = X3*X3*X3 + A*X3 + B := by
  subst h3; subst hA; subst hB
  grind
theorem chordA (A B X1 Y1 X2 Y2 L : Rat) (h1 : Y1*Y1 = X1*X1*X1 + A*X1 + B) (h2 : Y2*Y2 = X2*X2*X2+A*X2+B) (hl : L*(X2 - X1) = Y2 - Y1) (hne : X2 - X1 ≠ 0) : A = L*(2*Y1 + L*(X2-X1)) - (X1*X1+X1*X2+X2*X2) := by
  have : (X2 - X1) * (A - (L*(2*Y1 + L*(X2-X1)) - (X1*X1+X1*X2+X2*X2))) = 0 := by grind
  rcases Rat.mul_eq_zero.1 this with h | h
  · exact absurd h hne
  · grind
theorem onC (A B x y e u : Rat) (hu : u*e = 1) (h : y*y = x*x*x + A*x*e*e*e*e + B*e*e*e*e*e*e) : (y*(u*u*u))*(y*(u*u*u)) = (x*(u*u))*(x*(u*u))*(x*(u*u)) + A*(x*(u*u)) + B := by
  grind
theorem slp (x1 y1 e1 u1 x2 y2 e2 u2 n d v : Rat) (h1 : u1*e1 = 1) (h2 : u2*e2 = 1) (hv : v*d = 1)
  (h : n * (e1*e2*(x2*(e1*e1) - x1*(e2*e2))) = d * (y2*(e1*e1*e1) - y1*(e2*e2*e2))) :
  (n*v)*(x2*(u2*u2) - x1*(u1*u1)) = y2*(u2*u2*u2) - y1*(u1*u1*u1) := by
  grind
theorem tgt (A x1 y1 e1 u1 n d v : Rat) (h1 : u1*e1 = 1) (hv : v*d = 1)
  (h : n * (2*y1*e1) = d * (3*x1*x1 + A*e1*e1*e1*e1)) :
  A = (n*v)*(2*(y1*(u1*u1*u1)) + (n*v)*(x1*(u1*u1) - x1*(u1*u1))) - ((x1*(u1*u1))*(x1*(u1*u1)) + (x1*(u1*u1))*(x1*(u1*u1)) + (x1*(u1*u1))*(x1*(u1*u1))) := by
  grind
theorem x3 (x1 e1 u1 x2 e2 u2 n d v x e w : Rat) (h1 : u1*e1 = 1) (h2 : u2*e2 = 1) (hv : v*d = 1) (hw : w*e = 1)
  (h : x * (d*d*((e1*e1)*(e2*e2))) = (n*n*((e1*e1)*(e2*e2)) - d*d*(x1*(e2*e2) + x2*(e1*e1)))*(e*e)) :
  x*(w*w) = (n*v)*(n*v) - x1*(u1*u1) - x2*(u2*u2) := by
  grind
theorem fin (A B x1 y1 e1 u1 n d v x e w : Rat) (h1 : u1*e1 = 1) (hv : v*d = 1) (hw : w*e = 1)
  (h : ((n*v)*(x1*(u1*u1)-x*(w*w)) - y1*(u1*u1*u1))*((n*v)*(x1*(u1*u1)-x*(w*w)) - y1*(u1*u1*u1)) = (x*(w*w))*(x*(w*w))*(x*(w*w)) + A*(x*(w*w)) + B) :
  ((n*(x1*(e*e) - x*(e1*e1))*e1 - y1*d*(e*e))*e)*((n*(x1*(e*e) - x*(e1*e1))*e1 - y1*d*(e*e))*e) = (d*(e1*e1*e1))*(d*(e1*e1*e1))*(x*x*x + A*x*e*e*e*e + B*e*e*e*e*e*e) := by
  have hS : (n*(x1*(e*e) - x*(e1*e1))*e1 - y1*d*(e*e)) = ((n*v)*(x1*(u1*u1)-x*(w*w)) - y1*(u1*u1*u1)) * (d*(e1*e1*e1)*(e*e)) := by grind
  rw [hS]
  generalize ((n*v)*(x1*(u1*u1)-x*(w*w)) - y1*(u1*u1*u1)) = Y at *
  have : (Y * (d*(e1*e1*e1)*(e*e))*e) * (Y * (d*(e1*e1*e1)*(e*e))*e) = (Y*Y) * ((d*(e1*e1*e1)*(e*e))*e) * ((d*(e1*e1*e1)*(e*e))*e) := by grind
  rw [this, h]
  clear this h hS
  have h6 : (x*(w*w))*(x*(w*w))*(x*(w*w))*(e*e*e*e*e*e) = x*x*x := by grind
  have h4 : (x*(w*w))*(e*e*e*e*e*e) = x*e*e*e*e := by grind
  generalize (x*(w*w))*(x*(w*w))*(x*(w*w)) = P at *
  generalize (x*(w*w)) = Q at *
  grind
theorem onC' (A B x1 y1 e1 u1 : Rat) (hu : u1*e1 = 1) (h : y1*y1 = x1*x1*x1 + A*x1*e1*e1*e1*e1 + B*e1*e1*e1*e1*e1*e1) :
   B = (y1*(u1*u1*u1))*(y1*(u1*u1*u1)) - (x1*(u1*u1))*(x1*(u1*u1))*(x1*(u1*u1)) - A*(x1*(u1*u1)) := by
  have := onC A B x1 y1 e1 u1 hu h
  rw [this]; grind
theorem ivr (e : Rat) (h : e ≠ 0) : e⁻¹ * e = 1 := by grind
theorem third (A B x1 y1 e1 x2 y2 e2 n d x e : Rat) (he1 : e1 ≠ 0) (he2 : e2 ≠ 0) (hd : d ≠ 0) (he : e ≠ 0)
   (h1 : y1*y1 = x1*x1*x1 + A*x1*e1*e1*e1*e1 + B*e1*e1*e1*e1*e1*e1)
   (h2 : y2*y2 = x2*x2*x2 + A*x2*e2*e2*e2*e2 + B*e2*e2*e2*e2*e2*e2)
   (hs : (n * (e1*e2*(x2*(e1*e1) - x1*(e2*e2))) = d * (y2*(e1*e1*e1) - y1*(e2*e2*e2)) ∧ x2*(e1*e1) - x1*(e2*e2) ≠ 0) ∨ (n * (2*y1*e1) = d * (3*x1*x1 + A*e1*e1*e1*e1) ∧ x2 = x1 ∧ e2 = e1))
   (h : x * (d*d*((e1*e1)*(e2*e2))) = (n*n*((e1*e1)*(e2*e2)) - d*d*(x1*(e2*e2) + x2*(e1*e1)))*(e*e)) :
   ((n*(x1*(e*e) - x*(e1*e1))*e1 - y1*d*(e*e))*e)*((n*(x1*(e*e) - x*(e1*e1))*e1 - y1*d*(e*e))*e) = (d*(e1*e1*e1))*(d*(e1*e1*e1))*(x*x*x + A*x*e*e*e*e + B*e*e*e*e*e*e) := by
  have hB := onC' A B x1 y1 e1 _ (ivr e1 he1) h1
  have hX := x3 x1 e1 _ x2 e2 _ n d _ x e _ (ivr e1 he1) (ivr e2 he2) (ivr d hd) (ivr e he) h
  have hA : A = (n*d⁻¹)*(2*(y1*(e1⁻¹*e1⁻¹*e1⁻¹)) + (n*d⁻¹)*(x2*(e2⁻¹*e2⁻¹) - x1*(e1⁻¹*e1⁻¹))) - ((x1*(e1⁻¹*e1⁻¹))*(x1*(e1⁻¹*e1⁻¹)) + (x1*(e1⁻¹*e1⁻¹))*(x2*(e2⁻¹*e2⁻¹)) + (x2*(e2⁻¹*e2⁻¹))*(x2*(e2⁻¹*e2⁻¹))) := by
    rcases hs with ⟨hs, hne⟩ | ⟨hs, hx, hee⟩
    · refine chordA A B _ _ _ (y2*(e2⁻¹*e2⁻¹*e2⁻¹)) _ (onC A B x1 y1 e1 _ (ivr e1 he1) h1) (onC A B x2 y2 e2 _ (ivr e2 he2) h2) (slp x1 y1 e1 _ x2 y2 e2 _ n d _ (ivr e1 he1) (ivr e2 he2) (ivr d hd) hs) ?_
      intro hz
      apply hne
      have a1 := ivr e1 he1
      have a2 := ivr e2 he2
      generalize e1⁻¹ = u1 at *
      generalize e2⁻¹ = u2 at *
      clear hs hX hB h h1 h2
      grind
    · subst hx; subst hee
      exact tgt A _ y1 _ _ n d _ (ivr _ he1) (ivr d hd) hs
  exact fin A B x1 y1 e1 _ n d _ x e _ (ivr e1 he1) (ivr d hd) (ivr e he) (line A B _ _ _ _ hA hB _ hX)
theorem thirdZ (A B x1 y1 e1 x2 y2 e2 n d x e : Int) (he1 : e1 ≠ 0) (he2 : e2 ≠ 0) (hd : d ≠ 0) (he : e ≠ 0)
   (h1 : y1*y1 = x1*x1*x1 + A*x1*e1*e1*e1*e1 + B*e1*e1*e1*e1*e1*e1)
   (h2 : y2*y2 = x2*x2*x2 + A*x2*e2*e2*e2*e2 + B*e2*e2*e2*e2*e2*e2)
   (hs : (n * (e1*e2*(x2*(e1*e1) - x1*(e2*e2))) = d * (y2*(e1*e1*e1) - y1*(e2*e2*e2)) ∧ x2*(e1*e1) - x1*(e2*e2) ≠ 0) ∨ (n * (2*y1*e1) = d * (3*x1*x1 + A*e1*e1*e1*e1) ∧ x2 = x1 ∧ e2 = e1))
   (h : x * (d*d*((e1*e1)*(e2*e2))) = (n*n*((e1*e1)*(e2*e2)) - d*d*(x1*(e2*e2) + x2*(e1*e1)))*(e*e)) :
   ((n*(x1*(e*e) - x*(e1*e1))*e1 - y1*d*(e*e))*e)*((n*(x1*(e*e) - x*(e1*e1))*e1 - y1*d*(e*e))*e) = (d*(e1*e1*e1))*(d*(e1*e1*e1))*(x*x*x + A*x*e*e*e*e + B*e*e*e*e*e*e) := by
  have ne : ∀ z : Int, z ≠ 0 → (z : Rat) ≠ 0 := fun z hz hh => hz (by exact_mod_cast hh)
  have := third A B x1 y1 e1 x2 y2 e2 n d x e (ne _ he1) (ne _ he2) (ne _ hd) (ne _ he) (by exact_mod_cast h1) (by exact_mod_cast h2)
    (by
      rcases hs with ⟨a, b⟩ | ⟨a, b, c⟩
      · exact Or.inl ⟨by exact_mod_cast a, fun hh => b (by exact_mod_cast hh)⟩
      · exact Or.inr ⟨by exact_mod_cast a, by exact_mod_cast b, by exact_mod_cast c⟩)
    (by exact_mod_cast h)
  exact_mod_cast this
def thX (n d x1 e1 x2 e2 e x : Int) : Prop := x * (d*d*((e1*e1)*(e2*e2))) = (n*n*((e1*e1)*(e2*e2)) - d*d*(x1*(e2*e2) + x2*(e1*e1)))*(e*e)
def sdV (n d x1 y1 e1 e x : Int) : Int := n*(x1*(e*e) - x*(e1*e1))*e1 - y1*d*(e*e)
theorem sq_dvd {a b : Int} (h : a*a ∣ b*b) : a ∣ b := by
  have h1 := Int.natAbs_dvd_natAbs.2 h
  rw [Int.natAbs_mul, Int.natAbs_mul] at h1
  apply Int.natAbs_dvd_natAbs.1
  generalize a.natAbs = p at h1 ⊢
  generalize b.natAbs = q at h1 ⊢
  rw [← Nat.pow_two, ← Nat.pow_two] at h1
  exact (Nat.pow_dvd_pow_iff (by decide)).1 h1
theorem third_y {S e M V : Int} (hM : M ≠ 0) (h : (S*e)*(S*e) = M*M*V) : ∃ y, S*e = M*y ∧ y*y = V := by
  have hd : M ∣ S*e := sq_dvd ⟨V, h⟩
  obtain ⟨y, hy⟩ := hd
  refine ⟨y, hy, ?_⟩
  rw [hy] at h
  have h2 : (M*M)*(y*y) = (M*M)*V := by grind
  exact Int.eq_of_mul_eq_mul_left (by simpa using hM) h2
theorem lt_sq {b c : Int} (hb : 0 ≤ b) (h : b < c) : b*b < c*c := by
  have h1 : b*b ≤ b*c := Int.mul_le_mul_of_nonneg_left (by omega) hb
  have h2 : b*c < c*c := Int.mul_lt_mul_of_pos_right h (by omega)
  omega
theorem dvd_cop {a b c : Int} (h : a ∣ b * c) (hg : Int.gcd a b = 1) : a ∣ c := by
  have := Int.natAbs_dvd_natAbs.2 h
  rw [Int.natAbs_mul] at this
  exact Int.natAbs_dvd_natAbs.1 (Nat.Coprime.dvd_of_dvd_mul_left hg this)
theorem sq_le_abs {a b : Int} (hb : 0 ≤ b) (h : a*a ≤ b*b) : -b ≤ a ∧ a ≤ b := by
  constructor
  · apply Int.not_lt.1; intro hh
    have : b*b < (-a)*(-a) := lt_sq hb (by omega)
    rw [Int.neg_mul_neg] at this; omega
  · apply Int.not_lt.1; intro hh
    have := lt_sq hb hh
    omega
theorem third_bd {n d x1 e1 x2 e2 e x : Int} (hg : Int.gcd n d = 1) (hd : d ≠ 0) (h1 : 1 ≤ e1 ∧ e1 ≤ 20) (h2 : 1 ≤ e2 ∧ e2 ≤ 20) (h3 : 1 ≤ e ∧ e ≤ 20)
  (hx1 : -10000 ≤ x1 ∧ x1 ≤ 10000) (hx2 : -10000 ≤ x2 ∧ x2 ≤ 10000) (hx : -10000 ≤ x ∧ x ≤ 10000) (h : thX n d x1 e1 x2 e2 e x) :
  (-8000 ≤ d ∧ d ≤ 8000) ∧ (-200 * d.natAbs ≤ n ∧ n ≤ 200 * d.natAbs) := by
  unfold thX at h
  have hP1 : 1 ≤ e1*e2*e ∧ e1*e2*e ≤ 8000 := by
    have a1 : 1*1 ≤ e1*e2 := Int.mul_le_mul h1.1 h2.1 (by omega) (by omega)
    have a2 : e1*e2 ≤ 20*20 := Int.mul_le_mul h1.2 h2.2 (by omega) (by omega)
    have a3 : 1*1 ≤ e1*e2*e := Int.mul_le_mul a1 h3.1 (by omega) (by omega)
    have a4 : e1*e2*e ≤ (20*20)*20 := Int.mul_le_mul a2 h3.2 (by omega) (by omega)
    omega
  have hK : (n*(e1*e2*e))*(n*(e1*e2*e)) = (d*d)*(x*((e1*e2)*(e1*e2)) + x1*((e2*e)*(e2*e)) + x2*((e1*e)*(e1*e))) := by grind
  have hdv : d ∣ n*(e1*e2*e) := sq_dvd ⟨_, hK⟩
  have hdP : d ∣ e1*e2*e := dvd_cop hdv (by rw [Int.gcd_comm]; exact hg)
  have hle := Int.le_of_dvd (by omega) (Int.natAbs_dvd.2 hdP)
  refine ⟨by omega, ?_⟩
  have sqm : ∀ a b c : Int, 1 ≤ a → 1 ≤ b → 1 ≤ c → (a*b)*(a*b) ≤ (a*b*c)*(a*b*c) := by
    intro a b c ha hb hc
    have t : 1*1 ≤ a*b := Int.mul_le_mul ha hb (by omega) (by omega)
    have t2 : (a*b)*1 ≤ (a*b)*c := Int.mul_le_mul_of_nonneg_left hc (by omega)
    exact Int.mul_le_mul (by omega) (by omega) (by omega) (by omega)
  have q1 := sqm e1 e2 e h1.1 h2.1 h3.1
  have q2 := sqm e2 e e1 h2.1 h3.1 h1.1
  have q3 := sqm e1 e e2 h1.1 h3.1 h2.1
  have r2 : e2*e*e1 = e1*e2*e := by grind
  have r3 : e1*e*e2 = e1*e2*e := by grind
  rw [r2] at q2
  rw [r3] at q3
  generalize e1*e2*e = P at *
  have sq0 : ∀ a : Int, 0 ≤ a*a := fun a => by
    rcases Int.le_total 0 a with t | t
    · exact Int.mul_nonneg t t
    · exact Int.mul_nonneg_of_nonpos_of_nonpos t t
  have p1 := sq0 (e1*e2)
  have p2 := sq0 (e2*e)
  have p3 := sq0 (e1*e)
  generalize (e1*e2)*(e1*e2) = U at *
  generalize (e2*e)*(e2*e) = V at *
  generalize (e1*e)*(e1*e) = W at *
  have m1 : x*U ≤ 10000*(P*P) := Int.le_trans (Int.mul_le_mul_of_nonneg_right hx.2 p1) (by omega)
  have m2 : x1*V ≤ 10000*(P*P) := Int.le_trans (Int.mul_le_mul_of_nonneg_right hx1.2 p2) (by omega)
  have m3 : x2*W ≤ 10000*(P*P) := Int.le_trans (Int.mul_le_mul_of_nonneg_right hx2.2 p3) (by omega)
  have m4 : (d*d)*(x*U + x1*V + x2*W) ≤ (d*d)*(30000*(P*P)) := Int.mul_le_mul_of_nonneg_left (by omega) (sq0 d)
  have m5 : (n*n)*(P*P) ≤ (30000*(d*d))*(P*P) := by grind
  have hPP : 0 < P*P := Int.mul_pos (by omega) (by omega)
  have m6 : n*n ≤ 30000*(d*d) := Int.le_of_mul_le_mul_right m5 hPP
  have hdd : d*d = (d.natAbs : Int)*(d.natAbs : Int) := (Int.natAbs_mul_self).symm
  have := sq_le_abs (a := n) (b := 200 * d.natAbs) (by omega) (by
    have : (200 * (d.natAbs : Int)) * (200 * d.natAbs) = 40000*(d*d) := by rw [hdd]; grind
    have := sq0 d
    omega)
  omega
theorem cop_sq {x e : Int} (h : Int.gcd x e = 1) : Int.gcd x (e*e) = 1 := by
  have : Nat.gcd x.natAbs (e*e).natAbs = 1 := by
    rw [Int.natAbs_mul]
    exact Nat.Coprime.mul_right h h
  exact this
theorem cop_of_sq {x e : Int} (h : Int.gcd x (e*e) = 1) : Int.gcd x e = 1 := by
  have : Int.gcd x e ∣ Int.gcd x (e*e) := by
    show Nat.gcd x.natAbs e.natAbs ∣ Nat.gcd x.natAbs (e*e).natAbs
    rw [Int.natAbs_mul]
    exact Nat.dvd_gcd (Nat.gcd_dvd_left _ _) (Nat.dvd_trans (Nat.gcd_dvd_right _ _) (Nat.dvd_mul_right _ _))
  rw [h] at this
  exact Nat.dvd_one.1 this
theorem low_uniq {x D e z t : Int} (ha : Int.gcd x D = 1) (hb : Int.gcd z t = 1) (hD : 0 < D) (ht : 0 < t) (h : x*t = z*D) : x = z ∧ D = t := by
  have d1 : D ∣ t := dvd_cop (a := D) (b := x) (c := t) ⟨z, by rw [h]; grind⟩ (by rw [Int.gcd_comm]; exact ha)
  have d2 : t ∣ D := dvd_cop (a := t) (b := z) (c := D) ⟨x, by rw [← h]; grind⟩ (by rw [Int.gcd_comm]; exact hb)
  have e1 := Int.le_of_dvd ht d1
  have e2 := Int.le_of_dvd hD d2
  have : D = t := by omega
  subst this
  exact ⟨Int.eq_of_mul_eq_mul_right (by omega) h, rfl⟩
theorem third_low {n d x1 e1 x2 e2 e x z t : Int} (hd : d ≠ 0) (h1 : e1 ≠ 0) (h2 : e2 ≠ 0) (he : 1 ≤ e) (hc : Int.gcd x e = 1) (h : thX n d x1 e1 x2 e2 e x)
  (hl : z * (d*d*((e1*e1)*(e2*e2))) = (n*n*((e1*e1)*(e2*e2)) - d*d*(x1*(e2*e2) + x2*(e1*e1)))*t) (ht : 0 < t) (hg : Int.gcd z t = 1) : x = z ∧ e*e = t := by
  unfold thX at h
  have hM : d*d*((e1*e1)*(e2*e2)) ≠ 0 := by simp [hd, h1, h2]
  generalize d*d*((e1*e1)*(e2*e2)) = M at *
  generalize n*n*((e1*e1)*(e2*e2)) - d*d*(x1*(e2*e2) + x2*(e1*e1)) = T at *
  have : x*t = z*(e*e) := by
    apply Int.eq_of_mul_eq_mul_right hM
    grind
  exact low_uniq (e := e) (cop_sq hc) hg (Int.mul_pos (by omega) (by omega)) ht this
theorem third_uniq {n d x1 e1 x2 e2 e x f z : Int} (hd : d ≠ 0) (h1 : e1 ≠ 0) (h2 : e2 ≠ 0) (he : 1 ≤ e) (hf : 1 ≤ f) (hc : Int.gcd x e = 1) (h : thX n d x1 e1 x2 e2 e x)
  (hcf : Int.gcd z f = 1) (hl : thX n d x1 e1 x2 e2 f z) : x = z ∧ e = f := by
  have := third_low hd h1 h2 he hc h hl (Int.mul_pos (by omega) (by omega)) (cop_sq hcf)
  refine ⟨this.1, ?_⟩
  have a := (sq_le_abs (a := e) (b := f) (by omega) (by omega)).2
  have b := (sq_le_abs (a := f) (b := e) (by omega) (by omega)).2
  omega
theorem ref_y {n d x1 y1 e1 e x y3 up under y bottom : Int} (hd : d ≠ 0) (h1 : 1 ≤ e1) (he : 1 ≤ e) (hS : sdV n d x1 y1 e1 e x * e = (d*(e1*e1*e1))*y3)
  (hu : under ≠ 0) (hb : 0 < bottom) (ha : up*(d*(e1*e1)*e*e) = (n*(x1*e*e - x*(e1*e1)))*under) (hy : y*(under*(e1*e1)*e1) = (up*(e1*e1)*e1 - y1*under)*bottom) (hg : Int.gcd y bottom = 1) :
  y * ((e*e*e).tdiv bottom) = y3 := by
  have key : y*(e*e*e) = y3*bottom := by
    have hM : d*(e1*e1*e1)*under*(e*e)*(e1*e1*e1) ≠ 0 := by simp [hd, hu]; omega
    apply Int.eq_of_mul_eq_mul_right hM
    unfold sdV at hS
    have t1 : y*(e*e*e)*(d*(e1*e1*e1)*under*(e*e)*(e1*e1*e1)) = (y*(under*(e1*e1)*e1))*(d*(e1*e1*e1)*(e*e*e*e*e)) := by grind
    have t2 : (up*(e1*e1)*e1 - y1*under)*(d*(e1*e1*e1)*(e*e*e*e*e)) = (up*(d*(e1*e1)*e*e))*(e1*e1*e1*e1*(e*e*e)) - y1*under*(d*(e1*e1*e1)*(e*e*e*e*e)) := by grind
    have t3 : y3*bottom*(d*(e1*e1*e1)*under*(e*e)*(e1*e1*e1)) = ((d*(e1*e1*e1))*y3)*(bottom*under*(e*e)*(e1*e1*e1)) := by grind
    rw [t1, hy, t3, ← hS]
    have t4 : (up*(e1*e1)*e1 - y1*under)*bottom*(d*(e1*e1*e1)*(e*e*e*e*e)) = ((up*(e1*e1)*e1 - y1*under)*(d*(e1*e1*e1)*(e*e*e*e*e)))*bottom := by grind
    rw [t4, t2, ha]
    clear ha hy hS t1 t2 t3 t4 hM hg hd hu
    grind
  have hdv : bottom ∣ e*e*e := dvd_cop (a := bottom) (b := y) ⟨y3, by rw [key]; grind⟩ (by rw [Int.gcd_comm]; exact hg)
  obtain ⟨k, hk⟩ := hdv
  rw [hk, Int.mul_tdiv_cancel_left _ (by omega)]
  rw [hk] at key
  apply Int.eq_of_mul_eq_mul_right (a := bottom) (by omega)
  rw [← key, Int.mul_assoc, Int.mul_comm k]

def Third (n d x1 y1 e1 x2 e2 : Int) (r : Int × Int × Int × Bool) : Prop :=
  (∃ x y e, r = (x, y, e, true) ∧ (1 ≤ e ∧ e ≤ 20) ∧ (-10000 ≤ x ∧ x ≤ 10000) ∧ Int.gcd x e = 1 ∧ thX n d x1 e1 x2 e2 e x ∧ sdV n d x1 y1 e1 e x * e = (d*(e1*e1*e1))*y) ∨
  (r = (0, 0, 0, false) ∧ ∀ e x : Int, (1 ≤ e ∧ e ≤ 20) → (-10000 ≤ x ∧ x ≤ 10000) → Int.gcd x e = 1 → ¬ thX n d x1 e1 x2 e2 e x)
theorem Third.det {n d x1 y1 e1 x2 e2 : Int} {r s : Int × Int × Int × Bool} (hd : d ≠ 0) (h1 : e1 ≠ 0) (h2 : e2 ≠ 0) (hr : Third n d x1 y1 e1 x2 e2 r) (hs : Third n d x1 y1 e1 x2 e2 s) : r = s := by
  rcases hr with ⟨x, y, e, rfl, he, hx, hg, ht, hy⟩ | ⟨rfl, hn⟩
  · rcases hs with ⟨z, u, f, rfl, hf, hz, hg2, ht2, hu⟩ | ⟨rfl, hn⟩
    · obtain ⟨rfl, rfl⟩ := third_uniq hd h1 h2 he.1 hf.1 hg ht hg2 ht2
      rw [hy] at hu
      have : y = u := Int.eq_of_mul_eq_mul_left (a := d*(e1*e1*e1)) (by simp [hd, h1]) hu
      rw [this]
    · exact absurd ht (hn e x he hx hg)
  · rcases hs with ⟨z, u, f, rfl, hf, hz, hg2, ht2, hu⟩ | ⟨rfl, hn2⟩
    · exact absurd ht2 (hn f z hf hz hg2)
    · rfl
theorem thX_scale {g : Int} (hg : g ≠ 0) (n d x1 e1 x2 e2 e x : Int) : thX (g*n) (g*d) x1 e1 x2 e2 e x ↔ thX n d x1 e1 x2 e2 e x := by
  unfold thX
  have a1 : x * (g*d*(g*d)*((e1*e1)*(e2*e2))) = (g*g)*(x * (d*d*((e1*e1)*(e2*e2)))) := by grind
  have a2 : (g*n*(g*n)*((e1*e1)*(e2*e2)) - g*d*(g*d)*(x1*(e2*e2) + x2*(e1*e1)))*(e*e) = (g*g)*((n*n*((e1*e1)*(e2*e2)) - d*d*(x1*(e2*e2) + x2*(e1*e1)))*(e*e)) := by grind
  rw [a1, a2]
  constructor
  · intro h; exact Int.eq_of_mul_eq_mul_left (by simp [hg]) h
  · intro h; rw [h]
theorem sd_scale {g : Int} (hg : g ≠ 0) (n d x1 y1 e1 e x y : Int) : sdV (g*n) (g*d) x1 y1 e1 e x * e = (g*d*(e1*e1*e1))*y ↔ sdV n d x1 y1 e1 e x * e = (d*(e1*e1*e1))*y := by
  unfold sdV
  have a1 : (g*n*(x1*(e*e) - x*(e1*e1))*e1 - y1*(g*d)*(e*e))*e = g*((n*(x1*(e*e) - x*(e1*e1))*e1 - y1*d*(e*e))*e) := by grind
  have a2 : (g*d*(e1*e1*e1))*y = g*((d*(e1*e1*e1))*y) := by grind
  rw [a1, a2]
  constructor
  · intro h; exact Int.eq_of_mul_eq_mul_left hg h
  · intro h; rw [h]
theorem Third.scale {g : Int} (hg : g ≠ 0) {n d x1 y1 e1 x2 e2 : Int} {r : Int × Int × Int × Bool} (h : Third n d x1 y1 e1 x2 e2 r) : Third (g*n) (g*d) x1 y1 e1 x2 e2 r := by
  rcases h with ⟨x, y, e, rfl, he, hx, hc, ht, hy⟩ | ⟨rfl, hn⟩
  · exact Or.inl ⟨x, y, e, rfl, he, hx, hc, (thX_scale hg ..).2 ht, (sd_scale hg ..).2 hy⟩
  · exact Or.inr ⟨rfl, fun e x a b c h => hn e x a b c ((thX_scale hg ..).1 h)⟩
noncomputable def thV (n d x1 y1 e1 x2 e2 : Int) : Int × Int × Int × Bool := Classical.epsilon (Third n d x1 y1 e1 x2 e2)
theorem thV_eq {n d x1 y1 e1 x2 e2 : Int} {r : Int × Int × Int × Bool} (hd : d ≠ 0) (h1 : e1 ≠ 0) (h2 : e2 ≠ 0) (hr : Third n d x1 y1 e1 x2 e2 r) : thV n d x1 y1 e1 x2 e2 = r :=
  Third.det hd h1 h2 (Classical.epsilon_spec (p := Third n d x1 y1 e1 x2 e2) ⟨r, hr⟩) hr
theorem thV_scaled {g n d x1 y1 e1 x2 e2 : Int} {r : Int × Int × Int × Bool} (hg : g ≠ 0) (hd : d ≠ 0) (h1 : e1 ≠ 0) (h2 : e2 ≠ 0) (hr : Third n d x1 y1 e1 x2 e2 r) : thV (g*n) (g*d) x1 y1 e1 x2 e2 = r :=
  thV_eq (by simp [hg, hd]) h1 h2 (hr.scale hg)
def slN (A x1 y1 e1 x2 y2 e2 : Int) : Int := if x1 = x2 ∧ y1 = y2 ∧ e1 = e2 then 3*x1*x1 + A*e1*e1*e1*e1 else y2*e1*e1*e1 - y1*e2*e2*e2
def slD (x1 y1 e1 x2 y2 e2 : Int) : Int := if x1 = x2 ∧ y1 = y2 ∧ e1 = e2 then 2*y1*e1 else e1*e2*(x2*e1*e1 - x1*e2*e2)
theorem sl_zero {A B x1 y1 e1 x2 y2 e2 : Int} (h1 : 1 ≤ e1) (h2 : 1 ≤ e2) (g1 : Int.gcd x1 e1 = 1) (g2 : Int.gcd x2 e2 = 1) (c1 : y1*y1 = evV A B x1 e1) (c2 : y2*y2 = evV A B x2 e2) :
  slD x1 y1 e1 x2 y2 e2 = 0 ↔ (x1 = x2 ∧ y1 = -y2 ∧ e1 = e2) := by
  unfold slD
  by_cases hs : x1 = x2 ∧ y1 = y2 ∧ e1 = e2
  · obtain ⟨rfl, rfl, rfl⟩ := hs
    simp only [and_self, if_true, true_and, and_true]
    constructor
    · intro h
      rcases Int.mul_eq_zero.1 h with h | h
      · omega
      · omega
    · intro h
      have : y1 = 0 := by omega
      subst this; simp
  · rw [if_neg hs]
    constructor
    · intro h
      have hx : x1*(e2*e2) = x2*(e1*e1) := by
        rcases Int.mul_eq_zero.1 h with h | h
        · rcases Int.mul_eq_zero.1 h with h | h <;> omega
        · grind
      obtain ⟨hx2, he⟩ := low_uniq (e := 1) (cop_sq g1) (cop_sq g2) (Int.mul_pos (by omega) (by omega)) (Int.mul_pos (by omega) (by omega)) hx
      have a := (sq_le_abs (a := e1) (b := e2) (by omega) (by omega)).2
      have b := (sq_le_abs (a := e2) (b := e1) (by omega) (by omega)).2
      have he' : e1 = e2 := by omega
      subst hx2; subst he'
      rw [← c2] at c1
      have : (y1 - y2)*(y1 + y2) = 0 := by grind
      rcases Int.mul_eq_zero.1 this with t | t
      · exact absurd ⟨rfl, by omega, rfl⟩ hs
      · exact ⟨rfl, by omega, rfl⟩
    · rintro ⟨rfl, rfl, rfl⟩
      grind
theorem sl_curve {A B x1 y1 e1 x2 y2 e2 : Int} (h1 : 1 ≤ e1) (h2 : 1 ≤ e2) (c1 : y1*y1 = evV A B x1 e1) (c2 : y2*y2 = evV A B x2 e2) (hd : slD x1 y1 e1 x2 y2 e2 ≠ 0) {e x : Int} (he : 1 ≤ e)
  (h : thX (slN A x1 y1 e1 x2 y2 e2) (slD x1 y1 e1 x2 y2 e2) x1 e1 x2 e2 e x) :
  ∃ y, sdV (slN A x1 y1 e1 x2 y2 e2) (slD x1 y1 e1 x2 y2 e2) x1 y1 e1 e x * e = (slD x1 y1 e1 x2 y2 e2*(e1*e1*e1))*y ∧ y*y = evV A B x e := by
  apply third_y (by simp [hd]; omega)
  have hs : (slN A x1 y1 e1 x2 y2 e2 * (e1*e2*(x2*(e1*e1) - x1*(e2*e2))) = slD x1 y1 e1 x2 y2 e2 * (y2*(e1*e1*e1) - y1*(e2*e2*e2)) ∧ x2*(e1*e1) - x1*(e2*e2) ≠ 0) ∨ (slN A x1 y1 e1 x2 y2 e2 * (2*y1*e1) = slD x1 y1 e1 x2 y2 e2 * (3*x1*x1 + A*e1*e1*e1*e1) ∧ x2 = x1 ∧ e2 = e1) := by
    unfold slN slD at *
    by_cases hs : x1 = x2 ∧ y1 = y2 ∧ e1 = e2
    · right
      rw [if_pos hs, if_pos hs]
      exact ⟨Int.mul_comm _ _, hs.1.symm, hs.2.2.symm⟩
    · left
      rw [if_neg hs, if_neg hs]
      rw [if_neg hs] at hd
      refine ⟨by grind, ?_⟩
      intro hz
      apply hd
      have : x2*e1*e1 - x1*e2*e2 = x2*(e1*e1) - x1*(e2*e2) := by grind
      rw [this, hz]; simp
  unfold thX at h
  exact thirdZ A B x1 y1 e1 x2 y2 e2 _ _ x e (by omega) (by omega) hd (by omega) (by unfold evV at c1; exact c1) (by unfold evV at c2; exact c2) hs h
theorem third_ex {A B x1 y1 e1 x2 y2 e2 : Int} (h1 : 1 ≤ e1) (h2 : 1 ≤ e2) (c1 : y1*y1 = evV A B x1 e1) (c2 : y2*y2 = evV A B x2 e2) (hd : slD x1 y1 e1 x2 y2 e2 ≠ 0) :
  ∃ r, Third (slN A x1 y1 e1 x2 y2 e2) (slD x1 y1 e1 x2 y2 e2) x1 y1 e1 x2 e2 r := by
  by_cases h : ∃ e x : Int, (1 ≤ e ∧ e ≤ 20) ∧ (-10000 ≤ x ∧ x ≤ 10000) ∧ Int.gcd x e = 1 ∧ thX (slN A x1 y1 e1 x2 y2 e2) (slD x1 y1 e1 x2 y2 e2) x1 e1 x2 e2 e x
  · obtain ⟨e, x, he, hx, hg, ht⟩ := h
    obtain ⟨y, hy, -⟩ := sl_curve h1 h2 c1 c2 hd he.1 ht
    exact ⟨_, Or.inl ⟨x, y, e, rfl, he, hx, hg, ht, hy⟩⟩
  · exact ⟨_, Or.inr ⟨rfl, fun e x a b c d => h ⟨e, x, a, b, c, d⟩⟩⟩
theorem third_on {A B x1 y1 e1 x2 y2 e2 x y e : Int} (h1 : 1 ≤ e1) (h2 : 1 ≤ e2) (c1 : y1*y1 = evV A B x1 e1) (c2 : y2*y2 = evV A B x2 e2) (hd : slD x1 y1 e1 x2 y2 e2 ≠ 0)
  (h : Third (slN A x1 y1 e1 x2 y2 e2) (slD x1 y1 e1 x2 y2 e2) x1 y1 e1 x2 e2 (x, y, e, true)) : (1 ≤ e ∧ e ≤ 20) ∧ (-10000 ≤ x ∧ x ≤ 10000) ∧ Int.gcd x e = 1 ∧ y*y = evV A B x e := by
  rcases h with ⟨z, u, f, hr, he, hx, hg, ht, hy⟩ | ⟨hr, -⟩
  · simp only [Prod.mk.injEq] at hr
    obtain ⟨rfl, rfl, rfl, -⟩ := hr
    obtain ⟨v, hv, hc⟩ := sl_curve h1 h2 c1 c2 hd he.1 ht
    rw [hy] at hv
    have : y = v := Int.eq_of_mul_eq_mul_left (by simp [hd]; omega) hv
    subst this
    exact ⟨he, hx, hg, hc⟩
  · simp at hr
/-- the sum of two points of a curve -/
noncomputable def ptS (A x1 y1 e1 x2 y2 e2 : Int) : Int × Int × Int × Bool :=
  if e1 = 0 then (x2, y2, e2, true) else if e2 = 0 then (x1, y1, e1, true) else if x1 = x2 ∧ y1 = -y2 ∧ e1 = e2 then (0, 0, 0, true) else thV (slN A x1 y1 e1 x2 y2 e2) (slD x1 y1 e1 x2 y2 e2) x1 y1 e1 x2 e2
end
section
open Go.RowKit
set_option linter.unusedVariables false
set_option maxHeartbeats 2000000
set_option maxRecDepth 20000
set_option linter.unusedSimpArgs false
attribute [local go_sem] openAt openUpon
theorem ecPart_any (a b : Int) (w : World) (hb : b ≠ 0) (h1 : -9223372036854775807 ≤ a) (h2 : a ≤ 9223372036854775807) (h3 : -9223372036854775807 ≤ b) (h4 : b ≤ 9223372036854775807) :
  Calls Tryz.prog 87 #[.int .i64 a, .int .i64 b] w fun e w' => e = .returned (.tuple #[.int .i64 (mkN a b), .int .i64 (mkD a b)]) ∧ Below w.heap.size w w' := by
 have g1 := gcdI_pos (a := a) hb
 have g2 := gcdI_le (a := a) hb
 have a1 := absI_nonneg a
 have a2 := absI_nonneg b
 have a3 : absI a ≤ 9223372036854775807 := absI_le (by omega) (by omega)
 have a4 : absI b ≤ 9223372036854775807 := absI_le (by omega) (by omega)
 have T1 := fun W : World => common_any (absI a) (absI b) W a1 a3 a2 a4
 have hg : gcdI (absI a) (absI b) = gcdI a b := by rw [gcdI_abs, gcdI_abs2]
 rw [hg] at T1
 by_cases hneg : b < 0
 ·have HN : mkN a b = -(a.tdiv (gcdI a b)) := by simp [mkN, hneg]
  have HD : mkD a b = -(b.tdiv (gcdI a b)) := by simp [mkD, hneg]
  rw [HN, HD]
  generalize gcdI a b = g at *
  have q1 := tdiv_bd a g
  have q2 := tdiv_bd b g
  have hnz : -g ≠ 0 := by omega
  clear HN HD hg
  have tok1 := trivial
  have tok2 := trivial
  go_enter Tryz.func87, Tryz.ntmps87
  go_wp2_with (first | (go_at_call 73; refine (l1Abs_any _ _ (by omega) (by omega)).mono ?_; rintro e w' ⟨rfl, rfl⟩) | (go_at_call 72; (with_reducible refine ((T1 _)).mono ?_); rintro e w' ⟨rfl, rfl⟩))
  go_region
  go_wp2_with (first | (go_at_call 73; refine (l1Abs_any _ _ (by omega) (by omega)).mono ?_; rintro e w' ⟨rfl, rfl⟩) | (go_at_call 72; (with_reducible refine ((T1 _)).mono ?_); rintro e w' ⟨rfl, rfl⟩))
  refine bodyPost_ret (v := _) (by simp [results, Tryz.results87, go_sem, *]) rfl ⟨rfl, ?_⟩
  exact bel
 ·have HN : mkN a b = a.tdiv (gcdI a b) := by simp [mkN, hneg]
  have HD : mkD a b = b.tdiv (gcdI a b) := by simp [mkD, hneg]
  rw [HN, HD]
  generalize gcdI a b = g at *
  have q1 := tdiv_bd a g
  have q2 := tdiv_bd b g
  have hnz : g ≠ 0 := by omega
  clear HN HD hg
  have tok1 := trivial
  have tok2 := trivial
  go_enter Tryz.func87, Tryz.ntmps87
  go_wp2_with (first | (go_at_call 73; refine (l1Abs_any _ _ (by omega) (by omega)).mono ?_; rintro e w' ⟨rfl, rfl⟩) | (go_at_call 72; (with_reducible refine ((T1 _)).mono ?_); rintro e w' ⟨rfl, rfl⟩))
  go_region
  go_wp2_with (first | (go_at_call 73; refine (l1Abs_any _ _ (by omega) (by omega)).mono ?_; rintro e w' ⟨rfl, rfl⟩) | (go_at_call 72; (with_reducible refine ((T1 _)).mono ?_); rintro e w' ⟨rfl, rfl⟩))
  refine bodyPost_ret (v := _) (by simp [results, Tryz.results87, go_sem, *]) rfl ⟨rfl, ?_⟩
  exact bel
def IsRt (n r : Int) : Prop := 0 ≤ r ∧ r * r ≤ n ∧ n < (r + 1) * (r + 1)
noncomputable def rtV (n : Int) : Int := Classical.epsilon (IsRt n)
theorem le_sq {b c : Int} (hb : 0 ≤ b) (h : b ≤ c) : b * b ≤ c * c := Int.mul_le_mul h h hb (by omega)
theorem IsRt.det {n r s : Int} (h : IsRt n r) (k : IsRt n s) : r = s := by
 rcases Int.lt_trichotomy r s with t | t | t
 ·have := le_sq (b := r + 1) (c := s) (by have := h.1; omega) (by omega)
  have := h.2.2; have := k.2.1; omega
 ·exact t
 ·have := le_sq (b := s + 1) (c := r) (by have := k.1; omega) (by omega)
  have := k.2.2; have := h.2.1; omega
theorem rtV_eq {n r : Int} (h : IsRt n r) : rtV n = r := IsRt.det (Classical.epsilon_spec (p := IsRt n) ⟨r, h⟩) h
theorem rtV_sq {e : Int} (h : 0 ≤ e) : rtV (e * e) = e := rtV_eq ⟨h, Int.le_refl _, lt_sq h (by omega)⟩
def FrRtRel (n : Int) (x y : Value) : Prop := ∃ l h : Int, x = .int .i64 l ∧ y = .int .i64 h ∧ 0 ≤ l ∧ l < h ∧ h ≤ 2000000001 ∧ l * l ≤ n ∧ n < h * h
theorem frRoot_any (n : Int) (w : World) (h0 : 0 ≤ n) (h1 : n ≤ 4000000000000000000) :
  Calls Tryz.prog 47 #[.int .i64 n] w fun e w' => e = .returned (.int .i64 (rtV n)) ∧ w = w' := by
 go_enter Tryz.func47, Tryz.ntmps47
 go_wp2
 go_loop [3, 4] (fun x y => FrRtRel n x y) (fun x y => (intOf y - intOf x).natAbs)
 case atStart => exact ⟨0, 2000000001, rfl, rfl, by omega, by omega, by omega, by omega, by omega⟩
 case round =>
  obtain ⟨l, h, rfl, rfl, q1, q2, q3, q4, q5⟩ := hrel
  by_cases hc : 1 < h - l
  ·have m1 : (l + h).tdiv 2 = (l + h) / 2 := Int.tdiv_eq_ediv_of_nonneg (by omega)
   have hm : l < (l + h) / 2 ∧ (l + h) / 2 < h := by omega
   have HM := Lib.hid m1
   have hb := mul_bd (a := (l + h) / 2) (b := (l + h) / 2) (A := 2000000000) (B := 2000000000) (by omega) (by omega)
   by_cases hle : (l + h) / 2 * ((l + h) / 2) ≤ n
   ·go_wp2
    go_round
    case rel => exact ⟨(l + h) / 2, h, rfl, rfl, by omega, by omega, q3, hle, q5⟩
    case measure => simp [intOf]; omega
   ·go_wp2
    go_round
    case rel => exact ⟨l, (l + h) / 2, rfl, rfl, by omega, by omega, by omega, q4, by omega⟩
    case measure => simp [intOf]; omega
  ·have hh : h = l + 1 := by omega
   subst hh
   have HR := Lib.hid (rtV_eq (n := n) (r := l) ⟨q1, q4, q5⟩)
   go_wp2
   go_ret
   exact ⟨ret_int HR.out.symm, rfl⟩
end
section
open Go.RowKit
set_option linter.unusedVariables false
set_option maxHeartbeats 2000000
set_option maxRecDepth 20000
set_option linter.unusedSimpArgs false
attribute [local go_sem] openAt openUpon
theorem eql_pt2 (x y e x2 y2 e2 : Int) (W : World) : (binOp .eql 45 (.agg #[.int .i64 x, .int .i64 y, .int .i64 e]) (.agg #[.int .i64 x2, .int .i64 y2, .int .i64 e2])).run Tryz.prog W = .ok (.bool (decide (x = x2 ∧ y = y2 ∧ e = e2))) W := by
 by_cases hx : x = x2
 ·by_cases hy : y = y2
  ·by_cases he : e = e2 <;> simp [go_sem, hx, hy, he]
  ·simp [go_sem, hx, hy]
 ·simp [go_sem, hx]
theorem sl_bd {A x1 y1 e1 x2 y2 e2 : Int} (hA : -1000 ≤ A ∧ A ≤ 1000) (hx1 : -10000 ≤ x1 ∧ x1 ≤ 10000) (hx2 : -10000 ≤ x2 ∧ x2 ≤ 10000) (hy1 : -3000000 ≤ y1 ∧ y1 ≤ 3000000) (hy2 : -3000000 ≤ y2 ∧ y2 ≤ 3000000) (he1 : 1 ≤ e1 ∧ e1 ≤ 20) (he2 : 1 ≤ e2 ∧ e2 ≤ 20) :
 (-48000000000 ≤ y2*e1*e1*e1 - y1*e2*e2*e2 ∧ y2*e1*e1*e1 - y1*e2*e2*e2 ≤ 48000000000) ∧ (-3200000000 ≤ e1*e2*(x2*e1*e1 - x1*e2*e2) ∧ e1*e2*(x2*e1*e1 - x1*e2*e2) ≤ 3200000000) ∧
 (-460000000 ≤ 3*x1*x1 + A*e1*e1*e1*e1 ∧ 3*x1*x1 + A*e1*e1*e1*e1 ≤ 460000000) ∧ (-120000000 ≤ 2*y1*e1 ∧ 2*y1*e1 ≤ 120000000) := by
 have a1 := mul_bd (a := y2) (b := e1) (A := 3000000) (B := 20) (by omega) (by omega)
 have a2 := mul_bd (a := y2*e1) (b := e1) (A := 60000000) (B := 20) (by omega) (by omega)
 have a3 := mul_bd (a := y2*e1*e1) (b := e1) (A := 1200000000) (B := 20) (by omega) (by omega)
 have b1 := mul_bd (a := y1) (b := e2) (A := 3000000) (B := 20) (by omega) (by omega)
 have b2 := mul_bd (a := y1*e2) (b := e2) (A := 60000000) (B := 20) (by omega) (by omega)
 have b3 := mul_bd (a := y1*e2*e2) (b := e2) (A := 1200000000) (B := 20) (by omega) (by omega)
 have c1 := mul_bd (a := x2) (b := e1) (A := 10000) (B := 20) (by omega) (by omega)
 have c2 := mul_bd (a := x2*e1) (b := e1) (A := 200000) (B := 20) (by omega) (by omega)
 have d1 := mul_bd (a := x1) (b := e2) (A := 10000) (B := 20) (by omega) (by omega)
 have d2 := mul_bd (a := x1*e2) (b := e2) (A := 200000) (B := 20) (by omega) (by omega)
 have f1 := mul_bd (a := e1) (b := e2) (A := 20) (B := 20) (by omega) (by omega)
 have f2 := mul_bd (a := e1*e2) (b := x2*e1*e1 - x1*e2*e2) (A := 400) (B := 8000000) (by omega) (by omega)
 have g1 := mul_bd (a := 3*x1) (b := x1) (A := 30000) (B := 10000) (by omega) (by omega)
 have h1 := mul_bd (a := A) (b := e1) (A := 1000) (B := 20) (by omega) (by omega)
 have h2 := mul_bd (a := A*e1) (b := e1) (A := 20000) (B := 20) (by omega) (by omega)
 have h3 := mul_bd (a := A*e1*e1) (b := e1) (A := 400000) (B := 20) (by omega) (by omega)
 have h4 := mul_bd (a := A*e1*e1*e1) (b := e1) (A := 8000000) (B := 20) (by omega) (by omega)
 have i1 := mul_bd (a := 2*y1) (b := e1) (A := 6000000) (B := 20) (by omega) (by omega)
 omega
theorem ptSlope_any (A B x1 y1 e1 x2 y2 e2 : Int) (w : World) (hA : -1000 ≤ A ∧ A ≤ 1000) (hx1 : -10000 ≤ x1 ∧ x1 ≤ 10000) (hx2 : -10000 ≤ x2 ∧ x2 ≤ 10000) (hy1 : -3000000 ≤ y1 ∧ y1 ≤ 3000000) (hy2 : -3000000 ≤ y2 ∧ y2 ≤ 3000000) (he1 : 1 ≤ e1 ∧ e1 ≤ 20) (he2 : 1 ≤ e2 ∧ e2 ≤ 20) :
  Calls Tryz.prog 86 #[.agg #[.int .i64 A, .int .i64 B], .agg #[.int .i64 x1, .int .i64 y1, .int .i64 e1], .agg #[.int .i64 x2, .int .i64 y2, .int .i64 e2]] w fun e w' =>
   e = .returned (.tuple #[.int .i64 (if slD x1 y1 e1 x2 y2 e2 = 0 then 1 else mkN (slN A x1 y1 e1 x2 y2 e2) (slD x1 y1 e1 x2 y2 e2)), .int .i64 (if slD x1 y1 e1 x2 y2 e2 = 0 then 0 else mkD (slN A x1 y1 e1 x2 y2 e2) (slD x1 y1 e1 x2 y2 e2))]) ∧ Below w.heap.size w w' := by
 have hb := sl_bd hA hx1 hx2 hy1 hy2 he1 he2
 have a1 := mul_bd (a := y2) (b := e1) (A := 3000000) (B := 20) (by omega) (by omega)
 have a2 := mul_bd (a := y2*e1) (b := e1) (A := 60000000) (B := 20) (by omega) (by omega)
 have a3 := mul_bd (a := y2*e1*e1) (b := e1) (A := 1200000000) (B := 20) (by omega) (by omega)
 have b1 := mul_bd (a := y1) (b := e2) (A := 3000000) (B := 20) (by omega) (by omega)
 have b2 := mul_bd (a := y1*e2) (b := e2) (A := 60000000) (B := 20) (by omega) (by omega)
 have b3 := mul_bd (a := y1*e2*e2) (b := e2) (A := 1200000000) (B := 20) (by omega) (by omega)
 have c1 := mul_bd (a := x2) (b := e1) (A := 10000) (B := 20) (by omega) (by omega)
 have c2 := mul_bd (a := x2*e1) (b := e1) (A := 200000) (B := 20) (by omega) (by omega)
 have d1 := mul_bd (a := x1) (b := e2) (A := 10000) (B := 20) (by omega) (by omega)
 have d2 := mul_bd (a := x1*e2) (b := e2) (A := 200000) (B := 20) (by omega) (by omega)
 have f1 := mul_bd (a := e1) (b := e2) (A := 20) (B := 20) (by omega) (by omega)
 by_cases hs : x1 = x2 ∧ y1 = y2 ∧ e1 = e2
 ·have hq := fun (W : World) => eql_pt2 x1 y1 e1 x2 y2 e2 W
  rw [show decide (x1 = x2 ∧ y1 = y2 ∧ e1 = e2) = true by simpa using hs] at hq
  have HN : slN A x1 y1 e1 x2 y2 e2 = 3*x1*x1 + A*e1*e1*e1*e1 := by simp only [slN, if_pos hs]
  have HD : slD x1 y1 e1 x2 y2 e2 = 2*y1*e1 := by simp only [slD, if_pos hs]
  rw [HN, HD]
  have g1 := mul_bd (a := 3*x1) (b := x1) (A := 30000) (B := 10000) (by omega) (by omega)
  have h1 := mul_bd (a := A) (b := e1) (A := 1000) (B := 20) (by omega) (by omega)
  have h2 := mul_bd (a := A*e1) (b := e1) (A := 20000) (B := 20) (by omega) (by omega)
  have h3 := mul_bd (a := A*e1*e1) (b := e1) (A := 400000) (B := 20) (by omega) (by omega)
  have h4 := mul_bd (a := A*e1*e1*e1) (b := e1) (A := 8000000) (B := 20) (by omega) (by omega)
  by_cases hz : 2*y1*e1 = 0
  ·rw [if_pos hz, if_pos hz]
   have T1 := 0
   clear HN HD hs
   have tok1 := trivial
   have tok2 := trivial
   go_enter Tryz.func86, Tryz.ntmps86
   go_wp2_with fail
   refine bodyPost_ret (v := _) (by simp [results, Tryz.results86, go_sem, *]) rfl ⟨rfl, ?_⟩
   exact bel
  ·rw [if_neg hz, if_neg hz]
   have T1 := fun W : World => ecPart_any (3*x1*x1 + A*e1*e1*e1*e1) (2*y1*e1) W hz (by omega) (by omega) (by omega) (by omega)
   clear HN HD hs
   have tok1 := trivial
   have tok2 := trivial
   go_enter Tryz.func86, Tryz.ntmps86
   go_wp2_with (first | (have _t := tok1; go_at_call 87; (with_reducible refine ((T1 _)).mono ?_); rintro e w1 ⟨rfl, hb1⟩; clear tok1 _t; have hz1 := hb1.size; (try simp only [sA, sB, sC, sD] at hz1); (try (obtain ⟨qa, qb, qk⟩ := cf2 hb1 (w.heap.size); simp [go_sem, *] at qa qb qk)); (try have qp : w.heap.size < w1.heap.size := by omega); (try (obtain ⟨qc, qf, qg, ql⟩ := cf3 hb1 (w.heap.size + 1); simp [go_sem, *] at qc qf qg ql)); (try have qq : w.heap.size + 1 < w1.heap.size := by omega); (try (obtain ⟨qh, qi, qj, qm⟩ := cf3 hb1 (w.heap.size + 1 + 1); simp [go_sem, *] at qh qi qj qm)); (try have qr : w.heap.size + 1 + 1 < w1.heap.size := by omega)))
   refine bodyPost_ret (v := _) (by simp [results, Tryz.results86, go_sem, *]) rfl ⟨rfl, ?_⟩
   exact bel
 ·have hq := fun (W : World) => eql_pt2 x1 y1 e1 x2 y2 e2 W
  rw [show decide (x1 = x2 ∧ y1 = y2 ∧ e1 = e2) = false by simpa using hs] at hq
  have HN : slN A x1 y1 e1 x2 y2 e2 = y2*e1*e1*e1 - y1*e2*e2*e2 := by simp only [slN, if_neg hs]
  have HD : slD x1 y1 e1 x2 y2 e2 = e1*e2*(x2*e1*e1 - x1*e2*e2) := by simp only [slD, if_neg hs]
  rw [HN, HD]
  by_cases hz : e1*e2*(x2*e1*e1 - x1*e2*e2) = 0
  ·rw [if_pos hz, if_pos hz]
   clear HN HD hs
   have tok1 := trivial
   have tok2 := trivial
   go_enter Tryz.func86, Tryz.ntmps86
   go_wp2_with fail
   refine bodyPost_ret (v := _) (by simp [results, Tryz.results86, go_sem, *]) rfl ⟨rfl, ?_⟩
   exact bel
  ·rw [if_neg hz, if_neg hz]
   have T1 := fun W : World => ecPart_any (y2*e1*e1*e1 - y1*e2*e2*e2) (e1*e2*(x2*e1*e1 - x1*e2*e2)) W hz (by omega) (by omega) (by omega) (by omega)
   clear HN HD hs
   have tok1 := trivial
   have tok2 := trivial
   go_enter Tryz.func86, Tryz.ntmps86
   go_wp2_with (first | (have _t := tok1; go_at_call 87; (with_reducible refine ((T1 _)).mono ?_); rintro e w1 ⟨rfl, hb1⟩; clear tok1 _t; have hz1 := hb1.size; (try simp only [sA, sB, sC, sD] at hz1); (try (obtain ⟨qa, qb, qk⟩ := cf2 hb1 (w.heap.size); simp [go_sem, *] at qa qb qk)); (try have qp : w.heap.size < w1.heap.size := by omega); (try (obtain ⟨qc, qf, qg, ql⟩ := cf3 hb1 (w.heap.size + 1); simp [go_sem, *] at qc qf qg ql)); (try have qq : w.heap.size + 1 < w1.heap.size := by omega); (try (obtain ⟨qh, qi, qj, qm⟩ := cf3 hb1 (w.heap.size + 1 + 1); simp [go_sem, *] at qh qi qj qm)); (try have qr : w.heap.size + 1 + 1 < w1.heap.size := by omega)))
   refine bodyPost_ret (v := _) (by simp [results, Tryz.results86, go_sem, *]) rfl ⟨rfl, ?_⟩
   exact bel
end
section
open Go.RowKit
set_option linter.unusedVariables false
set_option maxHeartbeats 1000000
set_option maxRecDepth 20000
set_option linter.unusedSectionVars false
theorem mk_low (a b : Int) (hb : b ≠ 0) : ∃ g, g ≠ 0 ∧ a = g * mkN a b ∧ b = g * mkD a b ∧ 0 < mkD a b ∧ Int.gcd (mkN a b) (mkD a b) = 1 := by
  have hg : 0 < Int.gcd a b := Int.gcd_pos_of_ne_zero_right _ hb
  obtain ⟨p, hp⟩ := Int.gcd_dvd_left a b
  obtain ⟨q, hq⟩ := Int.gcd_dvd_right a b
  have hc : Int.gcd p q = 1 := by
    have h1 := Int.gcd_mul_left (Int.gcd a b) p q
    rw [← hp, ← hq, Int.natAbs_natCast] at h1
    exact Nat.eq_of_mul_eq_mul_left hg (by omega)
  have hP : a.tdiv (gcdI a b) = p := by
    unfold gcdI
    generalize Int.gcd a b = g at *
    rw [hp]; exact Int.mul_tdiv_cancel_left _ (by omega)
  have hQ : b.tdiv (gcdI a b) = q := by
    unfold gcdI
    generalize Int.gcd a b = g at *
    rw [hq]; exact Int.mul_tdiv_cancel_left _ (by omega)
  unfold mkN mkD
  rw [hP, hQ]
  generalize Int.gcd a b = g at *
  by_cases hn : b < 0
  · have hq0 : q < 0 := by
      apply Int.not_le.1; intro h
      have := Int.mul_nonneg (a := (g : Int)) (b := q) (by omega) h
      omega
    simp only [if_pos hn]
    exact ⟨-(g : Int), by omega, by rw [Int.neg_mul_neg]; exact hp, by rw [Int.neg_mul_neg]; exact hq, by omega, by rw [Int.gcd_neg, Int.neg_gcd]; exact hc⟩
  · have hq0 : 0 < q := by
      apply Int.not_le.1; intro h
      have := Int.mul_nonneg (a := (g : Int)) (b := -q) (by omega) (by omega)
      rw [Int.mul_neg] at this
      omega
    simp only [if_neg hn]
    exact ⟨(g : Int), by omega, hp, hq, hq0, hc⟩
section
variable {A B x1 y1 e1 x2 y2 e2 : Int} (he1 : 1 ≤ e1 ∧ e1 ≤ 20) (he2 : 1 ≤ e2 ∧ e2 ≤ 20) (hx1 : -10000 ≤ x1 ∧ x1 ≤ 10000) (hx2 : -10000 ≤ x2 ∧ x2 ≤ 10000)
  (c1 : y1*y1 = evV A B x1 e1) (c2 : y2*y2 = evV A B x2 e2) (hz : slD x1 y1 e1 x2 y2 e2 ≠ 0)
include he1 he2 hz
/-- the third point of the raw slope is that of the slope in lowest terms -/
theorem thV_low {r : Int × Int × Int × Bool} (h : Third (mkN (slN A x1 y1 e1 x2 y2 e2) (slD x1 y1 e1 x2 y2 e2)) (mkD (slN A x1 y1 e1 x2 y2 e2) (slD x1 y1 e1 x2 y2 e2)) x1 y1 e1 x2 e2 r) :
  thV (slN A x1 y1 e1 x2 y2 e2) (slD x1 y1 e1 x2 y2 e2) x1 y1 e1 x2 e2 = r := by
  obtain ⟨g, hg, hn, hd, hp, -⟩ := mk_low (slN A x1 y1 e1 x2 y2 e2) (slD x1 y1 e1 x2 y2 e2) hz
  have := thV_scaled (g := g) hg (by omega) (by omega) (by omega) h
  rw [← hn, ← hd] at this
  exact this
include hx1 hx2
theorem ref_far (h : ¬ (mkD (slN A x1 y1 e1 x2 y2 e2) (slD x1 y1 e1 x2 y2 e2) ≤ 8000 ∧ (-(200 * mkD (slN A x1 y1 e1 x2 y2 e2) (slD x1 y1 e1 x2 y2 e2)) ≤ mkN (slN A x1 y1 e1 x2 y2 e2) (slD x1 y1 e1 x2 y2 e2) ∧ mkN (slN A x1 y1 e1 x2 y2 e2) (slD x1 y1 e1 x2 y2 e2) ≤ 200 * mkD (slN A x1 y1 e1 x2 y2 e2) (slD x1 y1 e1 x2 y2 e2)))) :
  thV (slN A x1 y1 e1 x2 y2 e2) (slD x1 y1 e1 x2 y2 e2) x1 y1 e1 x2 e2 = (0, 0, 0, false) := by
  apply thV_low he1 he2 hz
  obtain ⟨g, hg, -, -, hp, hc⟩ := mk_low (slN A x1 y1 e1 x2 y2 e2) (slD x1 y1 e1 x2 y2 e2) hz
  generalize mkN (slN A x1 y1 e1 x2 y2 e2) (slD x1 y1 e1 x2 y2 e2) = n at *
  generalize mkD (slN A x1 y1 e1 x2 y2 e2) (slD x1 y1 e1 x2 y2 e2) = d at *
  refine Or.inr ⟨rfl, fun e x he hx hgc ht => h ?_⟩
  have := third_bd hc (by omega) he1 he2 he hx1 hx2 hx ht
  omega
end
section
variable {n d x1 y1 e1 x2 e2 : Int} (hd : 0 < d) (he1 : 1 ≤ e1 ∧ e1 ≤ 20) (he2 : 1 ≤ e2 ∧ e2 ≤ 20)
include hd he1 he2
theorem ref_D : 0 < d*d*(e1*e1)*(e2*e2) := Int.mul_pos (Int.mul_pos (Int.mul_pos hd hd) (Int.mul_pos (by omega) (by omega))) (Int.mul_pos (by omega) (by omega))
theorem ref_x {T : Int} (hT : T = n*n*(e1*e1)*(e2*e2) - x1*d*d*(e2*e2) - x2*d*d*(e1*e1)) :
  mkN T (d*d*(e1*e1)*(e2*e2)) * (d*d*((e1*e1)*(e2*e2))) = (n*n*((e1*e1)*(e2*e2)) - d*d*(x1*(e2*e2) + x2*(e1*e1)))*mkD T (d*d*(e1*e1)*(e2*e2)) ∧ 0 < mkD T (d*d*(e1*e1)*(e2*e2)) ∧ Int.gcd (mkN T (d*d*(e1*e1)*(e2*e2))) (mkD T (d*d*(e1*e1)*(e2*e2))) = 1 := by
  have hD := ref_D hd he1 he2
  obtain ⟨g, hg, h1, h2, h3, h4⟩ := mk_low T (d*d*(e1*e1)*(e2*e2)) (by omega)
  refine ⟨?_, h3, h4⟩
  generalize mkN T (d*d*(e1*e1)*(e2*e2)) = X at *
  generalize mkD T (d*d*(e1*e1)*(e2*e2)) = E at *
  have a1 : d*d*((e1*e1)*(e2*e2)) = d*d*(e1*e1)*(e2*e2) := by grind
  have a2 : n*n*((e1*e1)*(e2*e2)) - d*d*(x1*(e2*e2) + x2*(e1*e1)) = T := by grind
  rw [a1, a2, h2, h1]
  grind
theorem ref_no {T : Int} (hT : T = n*n*(e1*e1)*(e2*e2) - x1*d*d*(e2*e2) - x2*d*d*(e1*e1))
  (h : ¬ (rtV (mkD T (d*d*(e1*e1)*(e2*e2))) * rtV (mkD T (d*d*(e1*e1)*(e2*e2))) = mkD T (d*d*(e1*e1)*(e2*e2)) ∧ rtV (mkD T (d*d*(e1*e1)*(e2*e2))) ≤ 20 ∧ (-10000 ≤ mkN T (d*d*(e1*e1)*(e2*e2)) ∧ mkN T (d*d*(e1*e1)*(e2*e2)) ≤ 10000))) :
  Third n d x1 y1 e1 x2 e2 (0, 0, 0, false) := by
  obtain ⟨a, b, c⟩ := ref_x hd he1 he2 hT
  refine Or.inr ⟨rfl, fun e x he hx hg ht => h ?_⟩
  obtain ⟨rfl, h2⟩ := third_low (by omega) (by omega) (by omega) he.1 hg ht a b c
  rw [← h2, rtV_sq (by omega)]
  exact ⟨rfl, by omega, hx⟩
theorem ref_yes {T x E e : Int} (hT : T = n*n*(e1*e1)*(e2*e2) - x1*d*d*(e2*e2) - x2*d*d*(e1*e1)) (hX : mkN T (d*d*(e1*e1)*(e2*e2)) = x) (hE : mkD T (d*d*(e1*e1)*(e2*e2)) = E) (hr : 0 ≤ e) (h1 : e*e = E) :
  1 ≤ e ∧ Int.gcd x e = 1 ∧ thX n d x1 e1 x2 e2 e x := by
  obtain ⟨a, b, c⟩ := ref_x hd he1 he2 hT
  rw [hE] at a b c
  rw [hX] at a c
  subst h1
  refine ⟨?_, cop_of_sq c, a⟩
  rcases Int.lt_or_eq_of_le hr with t | t
  · omega
  · subst t; simp at b
theorem ref_pt {x e y3 up under y bottom : Int} (he : 1 ≤ e) (hS : sdV n d x1 y1 e1 e x * e = (d*(e1*e1*e1))*y3)
  (hup : mkN (n*(x1*e*e - x*(e1*e1))) (d*(e1*e1)*e*e) = up) (hun : mkD (n*(x1*e*e - x*(e1*e1))) (d*(e1*e1)*e*e) = under)
  (hy : mkN (up*(e1*e1)*e1 - y1*under) (under*(e1*e1)*e1) = y) (hb : mkD (up*(e1*e1)*e1 - y1*under) (under*(e1*e1)*e1) = bottom) :
  0 < under ∧ 0 < bottom ∧ y * ((e*e*e).tdiv bottom) = y3 := by
  have k1 : 0 < e1*e1 := Int.mul_pos (by omega) (by omega)
  have k2 : 0 < d*(e1*e1)*e*e := Int.mul_pos (Int.mul_pos (Int.mul_pos hd k1) (by omega)) (by omega)
  obtain ⟨g, hg, g1, g2, g3, -⟩ := mk_low (n*(x1*e*e - x*(e1*e1))) (d*(e1*e1)*e*e) (by omega)
  rw [hup] at g1
  rw [hun] at g2 g3
  have k3 : 0 < under*(e1*e1)*e1 := Int.mul_pos (Int.mul_pos g3 k1) (by omega)
  obtain ⟨f, hf, f1, f2, f3, f4⟩ := mk_low (up*(e1*e1)*e1 - y1*under) (under*(e1*e1)*e1) (by omega)
  rw [hy] at f1 f4
  rw [hb] at f2 f3 f4
  have hun0 : under ≠ 0 := by omega
  refine ⟨g3, f3, ref_y (up := up) (under := under) (by omega) he1.1 he hS hun0 f3 ?_ ?_ f4⟩
  · rw [g1, g2, Int.mul_comm g under, ← Int.mul_assoc, Int.mul_comm (up * under) g, Int.mul_assoc]
  · rw [f1, f2]
    grind
end
theorem pt_cases {A B x y e : Int} (hA : -1000 ≤ A ∧ A ≤ 1000) (hB : -10000 ≤ B ∧ B ≤ 10000) (h : ptB A B x y e = true) : (x = 0 ∧ y = 0 ∧ e = 0) ∨
  ((1 ≤ e ∧ e ≤ 20) ∧ (-10000 ≤ x ∧ x ≤ 10000) ∧ (-3000000 ≤ y ∧ y ≤ 3000000) ∧ Int.gcd x e = 1 ∧ y * y = evV A B x e) := by
  unfold ptB at h
  split at h
  · rename_i he
    simp only [Bool.and_eq_true, decide_eq_true_eq] at h
    exact Or.inl ⟨h.1, h.2, he⟩
  · simp only [Bool.and_eq_true, decide_eq_true_eq] at h
    obtain ⟨hx, he, hg, hy⟩ := h
    have hx := inB_iff.1 hx
    have he := inB_iff.1 he
    have hv := evV_bd hA hB hx (e := e) (by omega)
    refine Or.inr ⟨he, hx, root_bd hy (by omega), ?_, hy⟩
    unfold gcdI at hg; omega
/-- the sum when both are finite and the line is not upright -/
theorem ptS_thV {A x1 y1 e1 x2 y2 e2 : Int} (h1 : e1 ≠ 0) (h2 : e2 ≠ 0) (h : ¬ (x1 = x2 ∧ y1 = -y2 ∧ e1 = e2)) : ptS A x1 y1 e1 x2 y2 e2 = thV (slN A x1 y1 e1 x2 y2 e2) (slD x1 y1 e1 x2 y2 e2) x1 y1 e1 x2 e2 := by
  simp only [ptS, if_neg h1, if_neg h2, if_neg h]
end
section
open Go.RowKit
set_option linter.unusedVariables false
set_option maxHeartbeats 1000000
set_option maxRecDepth 20000
set_option linter.unusedSimpArgs false
theorem ptB_mk {A B x y e : Int} (he : 1 ≤ e ∧ e ≤ 20) (hx : -10000 ≤ x ∧ x ≤ 10000) (hg : Int.gcd x e = 1) (hc : y*y = evV A B x e) (hA : -1000 ≤ A ∧ A ≤ 1000) (hB : -10000 ≤ B ∧ B ≤ 10000) : ptB A B x y e = true := by
  have hv := evV_bd hA hB hx (e := e) (by omega)
  have hy := root_bd hc (by omega)
  unfold ptB
  rw [if_neg (by omega)]
  simp only [Bool.and_eq_true, decide_eq_true_eq]
  refine ⟨inB_iff.2 hx, inB_iff.2 he, by unfold gcdI; omega, hc⟩
theorem ptB_zero (A B : Int) : ptB A B 0 0 0 = true := by simp [ptB]
/-- the sum of two points is a point, or nothing -/
theorem ptS_ok {A B x1 y1 e1 x2 y2 e2 : Int} (hA : -1000 ≤ A ∧ A ≤ 1000) (hB : -10000 ≤ B ∧ B ≤ 10000) (hp : ptB A B x1 y1 e1 = true) (hq : ptB A B x2 y2 e2 = true) :
    ((ptS A x1 y1 e1 x2 y2 e2).2.2.2 = true ∧ ptB A B (ptS A x1 y1 e1 x2 y2 e2).1 (ptS A x1 y1 e1 x2 y2 e2).2.1 (ptS A x1 y1 e1 x2 y2 e2).2.2.1 = true) ∨ ptS A x1 y1 e1 x2 y2 e2 = (0, 0, 0, false) := by
  rcases pt_cases hA hB hp with ⟨rfl, rfl, rfl⟩ | ⟨he1, hx1, hy1, hg1, hc1⟩
  · rw [show ptS A 0 0 0 x2 y2 e2 = (x2, y2, e2, true) by simp [ptS]]
    exact Or.inl ⟨rfl, hq⟩
  rcases pt_cases hA hB hq with ⟨rfl, rfl, rfl⟩ | ⟨he2, hx2, hy2, hg2, hc2⟩
  · rw [show ptS A x1 y1 e1 0 0 0 = (x1, y1, e1, true) by simp [ptS]; omega]
    exact Or.inl ⟨rfl, hp⟩
  by_cases hz : x1 = x2 ∧ y1 = -y2 ∧ e1 = e2
  · rw [show ptS A x1 y1 e1 x2 y2 e2 = (0, 0, 0, true) by simp only [ptS, if_neg (show e1 ≠ 0 by omega), if_neg (show e2 ≠ 0 by omega), if_pos hz]]
    exact Or.inl ⟨rfl, ptB_zero A B⟩
  · rw [ptS_thV (by omega) (by omega) hz]
    have hzd : slD x1 y1 e1 x2 y2 e2 ≠ 0 := fun t => hz ((sl_zero he1.1 he2.1 hg1 hg2 hc1 hc2).1 t)
    obtain ⟨⟨x, y, e, k⟩, hr⟩ := third_ex he1.1 he2.1 hc1 hc2 hzd
    rw [thV_eq hzd (by omega) (by omega) hr]
    cases k
    · right
      rcases hr with ⟨x', y', e', h, _⟩ | ⟨h, _⟩
      · simp at h
      · exact h
    · left
      obtain ⟨g1, g2, g3, g4⟩ := third_on he1.1 he2.1 hc1 hc2 hzd hr
      exact ⟨rfl, ptB_mk g1 g2 g3 g4 hA hB⟩
end
end Go.Proofs.YtnemnkbcbokafaaGreat
