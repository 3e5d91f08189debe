/- Lemmas and contracts of functions. No condition. -/
import Derived.Test.YtnemnkbcbokafaaGreatPk25
import Derived.Test.YtnemnkbcbokafaaGreatPk26
import Derived.Test.YtnemnkbcbokafaaGreatPk32
import Derived.Test.YtnemnkbcbokafaaGreatPk43
import Derived.Test.YtnemnkbcbokafaaGreatPk45
namespace Go.Proofs.YtnemnkbcbokafaaGreat
open Go.RowKit
set_option linter.unusedVariables false
set_option maxHeartbeats 4000000
set_option maxRecDepth 20000
set_option linter.unusedSimpArgs false
def ifZ (o : Bool) (x : Int) : Int := if o = true then x else 0
theorem ifZ_f (x : Int) : ifZ false x = 0 := rfl
theorem ifZ_t (x : Int) : ifZ true x = x := rfl
theorem DualOf_any (a b : Int) (w : World) : Calls Tryz.prog 12 #[.agg #[.int .i64 a, .int .i64 b]] w fun e w' => e = .returned (.tuple #[.int .i64 (ifZ (tcB a b) (-2 * a)), .int .i64 (ifZ (tcB a b) (a * a - 4 * b)), .bool (tcB a b)]) ∧ Below w.heap.size w w' := by
 have T1 := fun W : World => Lib.hid (isTwoCurve_any a b W)
 rcases h : tcB a b with _ | _
 ·rw [h] at T1
  simp only [ifZ_f]
  have T2 := T1
  clear h
  have tok1 := trivial
  have tok2 := trivial
  go_enter Tryz.func12, Tryz.ntmps12
  go_wp2_with (first | (have _t := tok1; go_at_call 23; (with_reducible refine ((T1 _).out).mono ?_); rintro e w1 ⟨rfl, hb1⟩; clear tok1 _t; have hz1 := hb1.size; (try simp only [sA, sB, sC, sD] at hz1); (try (obtain ⟨qa, qb, qc⟩ := cf2 hb1 (w.heap.size); simp [go_sem, *] at qa qb qc)); (try have qh : w.heap.size < w1.heap.size := by omega)) | (have _t := tok2; go_at_call 38; (with_reducible refine ((T2 _).out).mono ?_); rintro e w2 ⟨rfl, hb2⟩; clear tok2 _t; have hz2 := hb2.size; (try simp only [sA, sB, sC, sD] at hz2); (try (obtain ⟨qf, qg, qi⟩ := cf2 hb2 (w.heap.size); simp [go_sem, *] at qf qg qi)); (try have qj : w.heap.size < w2.heap.size := by omega); (try clear qa qb qc); (try clear qh)))
  go_ret3
  refine ⟨rfl, ?_⟩
  exact bel
 ·have hb := tcB_bd h
  have T2 := fun W : World => Lib.hid (side_any a b W hb.1 hb.2.1)
  rw [h] at T1
  simp only [ifZ_t]
  clear h
  generalize -2 * a = x at *
  generalize a * a - 4 * b = y at *
  have tok1 := trivial
  have tok2 := trivial
  go_enter Tryz.func12, Tryz.ntmps12
  go_wp2_with (first | (have _t := tok1; go_at_call 23; (with_reducible refine ((T1 _).out).mono ?_); rintro e w1 ⟨rfl, hb1⟩; clear tok1 _t; have hz1 := hb1.size; (try simp only [sA, sB, sC, sD] at hz1); (try (obtain ⟨qa, qb, qc⟩ := cf2 hb1 (w.heap.size); simp [go_sem, *] at qa qb qc)); (try have qh : w.heap.size < w1.heap.size := by omega)) | (have _t := tok2; go_at_call 38; (with_reducible refine ((T2 _).out).mono ?_); rintro e w2 ⟨rfl, hb2⟩; clear tok2 _t; have hz2 := hb2.size; (try simp only [sA, sB, sC, sD] at hz2); (try (obtain ⟨qf, qg, qi⟩ := cf2 hb2 (w.heap.size); simp [go_sem, *] at qf qg qi)); (try have qj : w.heap.size < w2.heap.size := by omega); (try clear qa qb qc); (try clear qh)))
  go_ret3
  refine ⟨rfl, ?_⟩
  exact bel
theorem sDualOf_any (a b : Int) (w : World) : Calls Tryz.prog 13 #[.agg #[.int .i64 a, .int .i64 b]] w fun e w' => e = .returned (.tuple #[.int .i64 (ifZ (tcB a b) (-2 * a)), .int .i64 (ifZ (tcB a b) (a * a - 4 * b)), .bool (tcB a b)]) ∧ Below w.heap.size w w' := by
 have T1 := fun W : World => Lib.hid (tcGood_any a b W)
 rcases h : tcB a b with _ | _
 ·rw [h] at T1
  simp only [ifZ_f]
  have T2 := T1
  clear h
  have tok1 := trivial
  have tok2 := trivial
  go_enter Tryz.func13, Tryz.ntmps13
  go_wp2_with (first | (have _t := tok1; go_at_call 31; (with_reducible refine ((T1 _).out).mono ?_); rintro e w1 ⟨rfl, hb1⟩; clear tok1 _t; have hz1 := hb1.size; (try simp only [sA, sB, sC, sD] at hz1); (try (obtain ⟨qa, qb, qc⟩ := cf2 hb1 (w.heap.size); simp [go_sem, *] at qa qb qc)); (try have qh : w.heap.size < w1.heap.size := by omega)) | (have _t := tok2; go_at_call 39; (with_reducible refine ((T2 _).out).mono ?_); rintro e w2 ⟨rfl, hb2⟩; clear tok2 _t; have hz2 := hb2.size; (try simp only [sA, sB, sC, sD] at hz2); (try (obtain ⟨qf, qg, qi⟩ := cf2 hb2 (w.heap.size); simp [go_sem, *] at qf qg qi)); (try have qj : w.heap.size < w2.heap.size := by omega); (try clear qa qb qc); (try clear qh)))
  go_ret3
  refine ⟨rfl, ?_⟩
  exact bel
 ·have hb := tcB_bd h
  have T2 := fun W : World => Lib.hid (tcDual_any a b W hb.1 hb.2.1)
  rw [h] at T1
  simp only [ifZ_t]
  clear h
  generalize -2 * a = x at *
  generalize a * a - 4 * b = y at *
  have tok1 := trivial
  have tok2 := trivial
  go_enter Tryz.func13, Tryz.ntmps13
  go_wp2_with (first | (have _t := tok1; go_at_call 31; (with_reducible refine ((T1 _).out).mono ?_); rintro e w1 ⟨rfl, hb1⟩; clear tok1 _t; have hz1 := hb1.size; (try simp only [sA, sB, sC, sD] at hz1); (try (obtain ⟨qa, qb, qc⟩ := cf2 hb1 (w.heap.size); simp [go_sem, *] at qa qb qc)); (try have qh : w.heap.size < w1.heap.size := by omega)) | (have _t := tok2; go_at_call 39; (with_reducible refine ((T2 _).out).mono ?_); rintro e w2 ⟨rfl, hb2⟩; clear tok2 _t; have hz2 := hb2.size; (try simp only [sA, sB, sC, sD] at hz2); (try (obtain ⟨qf, qg, qi⟩ := cf2 hb2 (w.heap.size); simp [go_sem, *] at qf qg qi)); (try have qj : w.heap.size < w2.heap.size := by omega); (try clear qa qb qc); (try clear qh)))
  go_ret3
  refine ⟨rfl, ?_⟩
  exact bel
/-! ### plain models -/
def plT (a b : Int) : Int × Int × Int := if a.tmod 3 = 0 then (b - 3 * a.tdiv 3 * a.tdiv 3, 2 * a.tdiv 3 * a.tdiv 3 * a.tdiv 3 - a.tdiv 3 * b, a.tdiv 3) else (81 * b - 27 * a * a, 54 * a * a * a - 243 * a * b, 3 * a)
def pmB (a b : Int) : Bool := tcB a b && cvB (plT a b).1 (plT a b).2.1
theorem pl_bd {a : Int} (ha : -300 ≤ a ∧ a ≤ 300) : -100 ≤ a.tdiv 3 ∧ a.tdiv 3 ≤ 100 := by
 have h1 := Int.mul_tdiv_add_tmod a 3
 have h2 := tmod_bd a 3 (by omega)
 omega
theorem plainModel_any (a b : Int) (w : World) (ha : -300 ≤ a ∧ a ≤ 300) (hb : -300 ≤ b ∧ b ≤ 300) : Calls Tryz.prog 41 #[.agg #[.int .i64 a, .int .i64 b]] w fun e w' =>
  e = .returned (.tuple #[.agg #[.int .i64 (ifZ (cvB (plT a b).1 (plT a b).2.1) (plT a b).1), .int .i64 (ifZ (cvB (plT a b).1 (plT a b).2.1) (plT a b).2.1)], .int .i64 (ifZ (cvB (plT a b).1 (plT a b).2.1) (plT a b).2.2), .bool (cvB (plT a b).1 (plT a b).2.1)]) ∧ Below w.heap.size w w' := by
 have hv := pl_bd ha
 have m1 := mul_bd (a := 27 * a) (b := a) (A := 8100) (B := 300) (by omega) (by omega)
 have m2 := mul_bd (a := 54 * a) (b := a) (A := 16200) (B := 300) (by omega) (by omega)
 have m3 := mul_bd (a := 54 * a * a) (b := a) (A := 4860000) (B := 300) (by omega) (by omega)
 have m4 := mul_bd (a := 243 * a) (b := b) (A := 72900) (B := 300) (by omega) (by omega)
 by_cases h3 : a.tmod 3 = 0
 ·have e0 : plT a b = (b - 3 * a.tdiv 3 * a.tdiv 3, 2 * a.tdiv 3 * a.tdiv 3 * a.tdiv 3 - a.tdiv 3 * b, a.tdiv 3) := if_pos h3
  rw [e0]
  dsimp only
  have h3c : (a.tmod 3 == 0) = true := by simpa using h3
  clear h3 e0
  generalize hvv : a.tdiv 3 = v at *
  have m5 := mul_bd (a := 3 * v) (b := v) (A := 300) (B := 100) (by omega) (by omega)
  have m6 := mul_bd (a := 2 * v) (b := v) (A := 200) (B := 100) (by omega) (by omega)
  have m7 := mul_bd (a := 2 * v * v) (b := v) (A := 20000) (B := 100) (by omega) (by omega)
  have m8 := mul_bd (a := v) (b := b) (A := 100) (B := 300) (by omega) (by omega)
  have T1 := fun W : World => Lib.hid (isCurve_any (b - 3 * v * v) (2 * v * v * v - v * b) W)
  rcases h1 : cvB (b - 3 * v * v) (2 * v * v * v - v * b) with _ | _
  ·rw [h1] at T1
   simp only [ifZ_f]
   clear h1
   have tok1 := trivial
   go_enter Tryz.func41, Tryz.ntmps41
   go_wp2_with (first | (have _t := tok1; go_at_call 70; (with_reducible refine ((T1 _).out).mono ?_); rintro e w1 ⟨rfl, hb1⟩; clear tok1 _t; have hz1 := hb1.size; (try simp only [sA, sB, sC, sD] at hz1); (try (obtain ⟨qa, qb, qi⟩ := cf2 hb1 (w.heap.size); simp [go_sem, *] at qa qb qi)); (try have ql : w.heap.size < w1.heap.size := by omega); (try (obtain ⟨qc, qf, qj⟩ := cf2 hb1 (w.heap.size + 1); simp [go_sem, *] at qc qf qj)); (try have qm : w.heap.size + 1 < w1.heap.size := by omega); (try (obtain ⟨qg, qh, qk⟩ := cf2 hb1 (w.heap.size + 1 + 1); simp [go_sem, *] at qg qh qk)); (try have qp : w.heap.size + 1 + 1 < w1.heap.size := by omega)))
   (refine bodyPost_ret (v := .tuple #[.agg #[.int .i64 0, .int .i64 0], .int .i64 0, .bool false]) (by simp [results, Tryz.results41, go_sem, *]) rfl ⟨rfl, by exact bel⟩)
  ·rw [h1] at T1
   simp only [ifZ_t]
   clear h1
   have tok1 := trivial
   go_enter Tryz.func41, Tryz.ntmps41
   go_wp2_with (first | (have _t := tok1; go_at_call 70; (with_reducible refine ((T1 _).out).mono ?_); rintro e w1 ⟨rfl, hb1⟩; clear tok1 _t; have hz1 := hb1.size; (try simp only [sA, sB, sC, sD] at hz1); (try (obtain ⟨qa, qb, qi⟩ := cf2 hb1 (w.heap.size); simp [go_sem, *] at qa qb qi)); (try have ql : w.heap.size < w1.heap.size := by omega); (try (obtain ⟨qc, qf, qj⟩ := cf2 hb1 (w.heap.size + 1); simp [go_sem, *] at qc qf qj)); (try have qm : w.heap.size + 1 < w1.heap.size := by omega); (try (obtain ⟨qg, qh, qk⟩ := cf2 hb1 (w.heap.size + 1 + 1); simp [go_sem, *] at qg qh qk)); (try have qp : w.heap.size + 1 + 1 < w1.heap.size := by omega)))
   (refine bodyPost_ret (v := .tuple #[.agg #[.int .i64 (b - 3 * v * v), .int .i64 (2 * v * v * v - v * b)], .int .i64 v, .bool true]) (by simp [results, Tryz.results41, go_sem, *]) rfl ⟨rfl, by exact bel⟩)
 ·have e0 : plT a b = (81 * b - 27 * a * a, 54 * a * a * a - 243 * a * b, 3 * a) := if_neg h3
  rw [e0]
  dsimp only
  have h3c : (a.tmod 3 == 0) = false := by simpa using h3
  clear h3 e0
  have T1 := fun W : World => Lib.hid (isCurve_any (81 * b - 27 * a * a) (54 * a * a * a - 243 * a * b) W)
  rcases h1 : cvB (81 * b - 27 * a * a) (54 * a * a * a - 243 * a * b) with _ | _
  ·rw [h1] at T1
   simp only [ifZ_f]
   clear h1
   have tok1 := trivial
   go_enter Tryz.func41, Tryz.ntmps41
   go_wp2_with (first | (have _t := tok1; go_at_call 70; (with_reducible refine ((T1 _).out).mono ?_); rintro e w1 ⟨rfl, hb1⟩; clear tok1 _t; have hz1 := hb1.size; (try simp only [sA, sB, sC, sD] at hz1); (try (obtain ⟨qa, qb, qi⟩ := cf2 hb1 (w.heap.size); simp [go_sem, *] at qa qb qi)); (try have ql : w.heap.size < w1.heap.size := by omega); (try (obtain ⟨qc, qf, qj⟩ := cf2 hb1 (w.heap.size + 1); simp [go_sem, *] at qc qf qj)); (try have qm : w.heap.size + 1 < w1.heap.size := by omega); (try (obtain ⟨qg, qh, qk⟩ := cf2 hb1 (w.heap.size + 1 + 1); simp [go_sem, *] at qg qh qk)); (try have qp : w.heap.size + 1 + 1 < w1.heap.size := by omega)))
   (refine bodyPost_ret (v := .tuple #[.agg #[.int .i64 0, .int .i64 0], .int .i64 0, .bool false]) (by simp [results, Tryz.results41, go_sem, *]) rfl ⟨rfl, by exact bel⟩)
  ·rw [h1] at T1
   simp only [ifZ_t]
   clear h1
   have tok1 := trivial
   go_enter Tryz.func41, Tryz.ntmps41
   go_wp2_with (first | (have _t := tok1; go_at_call 70; (with_reducible refine ((T1 _).out).mono ?_); rintro e w1 ⟨rfl, hb1⟩; clear tok1 _t; have hz1 := hb1.size; (try simp only [sA, sB, sC, sD] at hz1); (try (obtain ⟨qa, qb, qi⟩ := cf2 hb1 (w.heap.size); simp [go_sem, *] at qa qb qi)); (try have ql : w.heap.size < w1.heap.size := by omega); (try (obtain ⟨qc, qf, qj⟩ := cf2 hb1 (w.heap.size + 1); simp [go_sem, *] at qc qf qj)); (try have qm : w.heap.size + 1 < w1.heap.size := by omega); (try (obtain ⟨qg, qh, qk⟩ := cf2 hb1 (w.heap.size + 1 + 1); simp [go_sem, *] at qg qh qk)); (try have qp : w.heap.size + 1 + 1 < w1.heap.size := by omega)))
   (refine bodyPost_ret (v := .tuple #[.agg #[.int .i64 (81 * b - 27 * a * a), .int .i64 (54 * a * a * a - 243 * a * b)], .int .i64 (3 * a), .bool true]) (by simp [results, Tryz.results41, go_sem, *]) rfl ⟨rfl, by exact bel⟩)
theorem PlainModel_any (a b : Int) (w : World) : Calls Tryz.prog 14 #[.agg #[.int .i64 a, .int .i64 b]] w fun e w' =>
  e = .returned (.tuple #[.agg #[.int .i64 (ifZ (pmB a b) (plT a b).1), .int .i64 (ifZ (pmB a b) (plT a b).2.1)], .int .i64 (ifZ (pmB a b) (plT a b).2.2), .bool (pmB a b)]) ∧ Below w.heap.size w w' := by
 have T1 := fun W : World => Lib.hid (isTwoCurve_any a b W)
 unfold pmB
 rcases h : tcB a b with _ | _
 ·rw [h] at T1
  simp only [Bool.false_and, ifZ_f]
  have T2 := T1
  clear h
  have tok1 := trivial
  have tok2 := trivial
  go_enter Tryz.func14, Tryz.ntmps14
  go_wp2_with (first | (have _t := tok1; go_at_call 23; (with_reducible refine ((T1 _).out).mono ?_); rintro e w1 ⟨rfl, hb1⟩; clear tok1 _t; have hz1 := hb1.size; (try simp only [sA, sB, sC, sD] at hz1); (try (obtain ⟨qa, qb, qg⟩ := cf2 hb1 (w.heap.size); simp [go_sem, *] at qa qb qg)); (try have qm : w.heap.size < w1.heap.size := by omega); (try (obtain ⟨qc, qf, qh⟩ := cf2 hb1 (w.heap.size + 1); simp [go_sem, *] at qc qf qh)); (try have qp : w.heap.size + 1 < w1.heap.size := by omega)) | (have _t := tok2; go_at_call 41; (with_reducible refine ((T2 _).out).mono ?_); rintro e w2 ⟨rfl, hb2⟩; clear tok2 _t; have hz2 := hb2.size; (try simp only [sA, sB, sC, sD] at hz2); (try (obtain ⟨qi, qj, qq⟩ := cf2 hb2 (w.heap.size); simp [go_sem, *] at qi qj qq)); (try have qt : w.heap.size < w2.heap.size := by omega); (try (obtain ⟨qk, ql, qr⟩ := cf2 hb2 (w.heap.size + 1); simp [go_sem, *] at qk ql qr)); (try have qu : w.heap.size + 1 < w2.heap.size := by omega); (try clear qa qb qg); (try clear qm); (try clear qc qf qh); (try clear qp)))
  (refine bodyPost_ret (v := .tuple #[.agg #[.int .i64 0, .int .i64 0], .int .i64 0, .bool false]) (by simp [results, Tryz.results14, go_sem, *]) rfl ⟨rfl, by exact bel⟩)
 ·have hb := tcB_bd h
  have T2 := fun W : World => Lib.hid (plainModel_any a b W hb.1 hb.2.1)
  rw [h] at T1
  simp only [Bool.true_and]
  clear h
  generalize ifZ (cvB (plT a b).1 (plT a b).2.1) (plT a b).1 = x at *
  generalize ifZ (cvB (plT a b).1 (plT a b).2.1) (plT a b).2.1 = y at *
  generalize ifZ (cvB (plT a b).1 (plT a b).2.1) (plT a b).2.2 = z at *
  generalize cvB (plT a b).1 (plT a b).2.1 = o at *
  have tok1 := trivial
  have tok2 := trivial
  go_enter Tryz.func14, Tryz.ntmps14
  go_wp2_with (first | (have _t := tok1; go_at_call 23; (with_reducible refine ((T1 _).out).mono ?_); rintro e w1 ⟨rfl, hb1⟩; clear tok1 _t; have hz1 := hb1.size; (try simp only [sA, sB, sC, sD] at hz1); (try (obtain ⟨qa, qb, qg⟩ := cf2 hb1 (w.heap.size); simp [go_sem, *] at qa qb qg)); (try have qm : w.heap.size < w1.heap.size := by omega); (try (obtain ⟨qc, qf, qh⟩ := cf2 hb1 (w.heap.size + 1); simp [go_sem, *] at qc qf qh)); (try have qp : w.heap.size + 1 < w1.heap.size := by omega)) | (have _t := tok2; go_at_call 41; (with_reducible refine ((T2 _).out).mono ?_); rintro e w2 ⟨rfl, hb2⟩; clear tok2 _t; have hz2 := hb2.size; (try simp only [sA, sB, sC, sD] at hz2); (try (obtain ⟨qi, qj, qq⟩ := cf2 hb2 (w.heap.size); simp [go_sem, *] at qi qj qq)); (try have qt : w.heap.size < w2.heap.size := by omega); (try (obtain ⟨qk, ql, qr⟩ := cf2 hb2 (w.heap.size + 1); simp [go_sem, *] at qk ql qr)); (try have qu : w.heap.size + 1 < w2.heap.size := by omega); (try clear qa qb qg); (try clear qm); (try clear qc qf qh); (try clear qp)))
  (refine bodyPost_ret (v := .tuple #[.agg #[.int .i64 x, .int .i64 y], .int .i64 z, .bool o]) (by simp [results, Tryz.results14, go_sem, *]) rfl ⟨rfl, by exact bel⟩)
end Go.Proofs.YtnemnkbcbokafaaGreat
