/- Lemmas and contracts of functions. No condition. -/
import Derived.Test.YtnemnkbcbokafaaGreatPk46
import Derived.BigRegion
namespace Go.Proofs.YtnemnkbcbokafaaGreat
open Go.RowKit
set_option linter.unusedVariables false
set_option maxHeartbeats 4000000
set_option maxRecDepth 20000
set_option linter.unusedSimpArgs false
theorem afP1 {w : World} {b1 o1 b2 o2 : Nat} {x v : Value} (h : w.cell? ⟨b2, o2, none⟩ = some v) (hne : b1 ≠ b2) : (w.setCell ⟨b1, o1, none⟩ x).cell? ⟨b2, o2, none⟩ = some v := by
 rw [← h]
 exact World.cell?_of_block (a := ⟨b2, o2, none⟩) (Below.heap_setCell w ⟨b1, o1, none⟩ x b2 (fun e => hne e.symm))
theorem afP2 {w : World} {b1 o1 o1' b2 o2 : Nat} {x y v : Value} (h : w.cell? ⟨b2, o2, none⟩ = some v) (hne : b1 ≠ b2) : ((w.setCell ⟨b1, o1, none⟩ x).setCell ⟨b1, o1', none⟩ y).cell? ⟨b2, o2, none⟩ = some v := afP1 (afP1 h hne) hne
theorem tcPlain_any (a b : Int) (w : World) (ha : -300 ≤ a ∧ a ≤ 300) (hb : -300 ≤ b ∧ b ≤ 300) : Calls Tryz.prog 42 #[.agg #[.int .i64 a, .int .i64 b]] w fun e w' =>
  ∃ u : Int, e = .returned (.tuple #[.agg #[.int .i64 (plT a b).1, .int .i64 (plT a b).2.1], .int .i64 u, .int .i64 (plT a b).2.2]) ∧ Below w.heap.size w w' := by
 have hv := pl_bd ha
 have m1 := mul_bd (a := 27 * a) (b := a) (A := 8100) (B := 300) (by omega) (by omega)
 have m2 := mul_bd (a := 54 * a) (b := a) (A := 16200) (B := 300) (by omega) (by omega)
 have m3 := mul_bd (a := 54 * a * a) (b := a) (A := 4860000) (B := 300) (by omega) (by omega)
 have m4 := mul_bd (a := 243 * a) (b := b) (A := 72900) (B := 300) (by omega) (by omega)
 by_cases h3 : a.tmod 3 = 0
 ·have e0 : plT a b = (b - 3 * a.tdiv 3 * a.tdiv 3, 2 * a.tdiv 3 * a.tdiv 3 * a.tdiv 3 - a.tdiv 3 * b, a.tdiv 3) := if_pos h3
  rw [e0]
  dsimp only
  have h3c : (a.tmod 3 == 0) = true := by simpa using h3
  clear h3 e0
  generalize hvv : a.tdiv 3 = v at *
  have m5 := mul_bd (a := 3 * v) (b := v) (A := 300) (B := 100) (by omega) (by omega)
  have m6 := mul_bd (a := 2 * v) (b := v) (A := 200) (B := 100) (by omega) (by omega)
  have m7 := mul_bd (a := 2 * v * v) (b := v) (A := 20000) (B := 100) (by omega) (by omega)
  have m8 := mul_bd (a := v) (b := b) (A := 100) (B := 300) (by omega) (by omega)
  go_enter Tryz.func42, Tryz.ntmps42
  go_wp2_with fail
  (refine bodyPost_ret (v := .tuple #[.agg #[.int .i64 (b - 3 * v * v), .int .i64 (2 * v * v * v - v * b)], .int .i64 1, .int .i64 v]) (by simp [results, Tryz.results42, go_sem, *]) rfl ⟨_, rfl, by exact bel⟩)
 ·have e0 : plT a b = (81 * b - 27 * a * a, 54 * a * a * a - 243 * a * b, 3 * a) := if_neg h3
  rw [e0]
  dsimp only
  have h3c : (a.tmod 3 == 0) = false := by simpa using h3
  clear h3 e0
  have q0 : IntKind.i64.wrap (81 * b) = 81 * b := by rw [IntKind.wrap_i64]; omega
  have q1 : IntKind.i64.wrap (27 * a) = 27 * a := by rw [IntKind.wrap_i64]; omega
  have q2 : IntKind.i64.wrap (27 * a * a) = 27 * a * a := by rw [IntKind.wrap_i64]; omega
  have q3 : IntKind.i64.wrap (81 * b - 27 * a * a) = 81 * b - 27 * a * a := by rw [IntKind.wrap_i64]; omega
  have q4 : IntKind.i64.wrap (54 * a) = 54 * a := by rw [IntKind.wrap_i64]; omega
  have q5 : IntKind.i64.wrap (54 * a * a) = 54 * a * a := by rw [IntKind.wrap_i64]; omega
  have q6 : IntKind.i64.wrap (54 * a * a * a) = 54 * a * a * a := by rw [IntKind.wrap_i64]; omega
  have q7 : IntKind.i64.wrap (243 * a) = 243 * a := by rw [IntKind.wrap_i64]; omega
  have q8 : IntKind.i64.wrap (243 * a * b) = 243 * a * b := by rw [IntKind.wrap_i64]; omega
  have q9 : IntKind.i64.wrap (54 * a * a * a - 243 * a * b) = 54 * a * a * a - 243 * a * b := by rw [IntKind.wrap_i64]; omega
  have q10 : IntKind.i64.wrap (3 * a) = 3 * a := by rw [IntKind.wrap_i64]; omega
  have tok1 := trivial
  go_enter Tryz.func42, Tryz.ntmps42
  go_upto_region 4 with fail
  go_region_held3 (fun W => W.cell? ⟨w.heap.size, 0, none⟩ = some (.int .i64 a) ∧ W.cell? ⟨w.heap.size, 1, none⟩ = some (.int .i64 b)) (first | go_keep | exact ⟨afP2 (by assumption) (by omega), afP2 (by assumption) (by omega)⟩) (fail)
  all_goals go_wp2_with fail
  all_goals (refine bodyPost_ret (v := .tuple #[.agg #[.int .i64 (81 * b - 27 * a * a), .int .i64 (54 * a * a * a - 243 * a * b)], .int .i64 3, .int .i64 (3 * a)]) (by simp [results, Tryz.results42, go_sem, *]) rfl ⟨_, rfl, by exact bel⟩)
theorem sPlainModel_any (a b : Int) (w : World) : Calls Tryz.prog 15 #[.agg #[.int .i64 a, .int .i64 b]] w fun e w' =>
  e = .returned (.tuple #[.agg #[.int .i64 (ifZ (pmB a b) (plT a b).1), .int .i64 (ifZ (pmB a b) (plT a b).2.1)], .int .i64 (ifZ (pmB a b) (plT a b).2.2), .bool (pmB a b)]) ∧ Below w.heap.size w w' := by
 have T1 := fun W : World => Lib.hid (tcGood_any a b W)
 unfold pmB
 rcases h : tcB a b with _ | _
 ·rw [h] at T1
  simp only [Bool.false_and, ifZ_f]
  have T2 := T1
  have T3 := T1
  clear h
  have tok1 := trivial
  have tok2 := trivial
  have tok3 := trivial
  go_enter Tryz.func15, Tryz.ntmps15
  go_wp2_with (first | (have _t := tok1; go_at_call 31; (with_reducible refine ((T1 _).out).mono ?_); rintro e w1 ⟨rfl, hb1⟩; clear tok1 _t; have hz1 := hb1.size; (try simp only [sA, sB, sC, sD] at hz1); (try (obtain ⟨qa, qb, qg⟩ := cf2 hb1 (w.heap.size); simp [go_sem, *] at qa qb qg)); (try have qm : w.heap.size < w1.heap.size := by omega); (try (obtain ⟨qc, qf, qh⟩ := cf2 hb1 (w.heap.size + 1); simp [go_sem, *] at qc qf qh)); (try have qp : w.heap.size + 1 < w1.heap.size := by omega)) | (have _t := tok2; go_at_call 42; (with_reducible refine ((T2 _).out).mono ?_); rintro e w2 ⟨u, rfl, hb2⟩; clear tok2 _t; have hz2 := hb2.size; (try simp only [sA, sB, sC, sD] at hz2); (try (obtain ⟨qi, qj, qq⟩ := cf2 hb2 (w.heap.size); simp [go_sem, *] at qi qj qq)); (try have xe : w.heap.size < w2.heap.size := by omega); (try (obtain ⟨qk, ql, qr⟩ := cf2 hb2 (w.heap.size + 1); simp [go_sem, *] at qk ql qr)); (try have xf : w.heap.size + 1 < w2.heap.size := by omega); (try clear qa qb qg); (try clear qm); (try clear qc qf qh); (try clear qp)) | (have _t := tok3; go_at_call 43; (with_reducible refine ((T3 _).out).mono ?_); rintro e w3 ⟨rfl, hb3⟩; clear tok3 _t; have hz3 := hb3.size; (try simp only [sA, sB, sC, sD] at hz3); (try (obtain ⟨qw, qz, xg⟩ := cf2 hb3 (w.heap.size); simp [go_sem, *] at qw qz xg)); (try have xj : w.heap.size < w3.heap.size := by omega); (try (obtain ⟨xa, xb, xh⟩ := cf2 hb3 (w.heap.size + 1); simp [go_sem, *] at xa xb xh)); (try have xk : w.heap.size + 1 < w3.heap.size := by omega); (try (obtain ⟨qt, qu, xc⟩ := cf2 hb3 (w2.heap.size); simp [go_sem, *] at qt qu xc)); (try have xi : w2.heap.size < w3.heap.size := by omega); (try clear qa qb qg); (try clear qm); (try clear qc qf qh); (try clear qp); (try clear qi qj qq); (try clear xe); (try clear qk ql qr); (try clear xf)))
  (refine bodyPost_ret (v := .tuple #[.agg #[.int .i64 0, .int .i64 0], .int .i64 0, .bool false]) (by simp [results, Tryz.results15, go_sem, *]) rfl ⟨rfl, by exact bel⟩)
 ·have hb := tcB_bd h
  have T2 := fun W : World => Lib.hid (tcPlain_any a b W hb.1 hb.2.1)
  have T3 := fun W : World => Lib.hid (ecGood_any (plT a b).1 (plT a b).2.1 W)
  rw [h] at T1
  simp only [Bool.true_and]
  clear h
  generalize (plT a b).1 = x at *
  generalize (plT a b).2.1 = y at *
  generalize (plT a b).2.2 = z at *
  rcases hv : cvB x y with _ | _
  ·rw [hv] at T3
   simp only [ifZ_f]
   clear hv
   have tok1 := trivial
   have tok2 := trivial
   have tok3 := trivial
   go_enter Tryz.func15, Tryz.ntmps15
   go_wp2_with (first | (have _t := tok1; go_at_call 31; (with_reducible refine ((T1 _).out).mono ?_); rintro e w1 ⟨rfl, hb1⟩; clear tok1 _t; have hz1 := hb1.size; (try simp only [sA, sB, sC, sD] at hz1); (try (obtain ⟨qa, qb, qg⟩ := cf2 hb1 (w.heap.size); simp [go_sem, *] at qa qb qg)); (try have qm : w.heap.size < w1.heap.size := by omega); (try (obtain ⟨qc, qf, qh⟩ := cf2 hb1 (w.heap.size + 1); simp [go_sem, *] at qc qf qh)); (try have qp : w.heap.size + 1 < w1.heap.size := by omega)) | (have _t := tok2; go_at_call 42; (with_reducible refine ((T2 _).out).mono ?_); rintro e w2 ⟨u, rfl, hb2⟩; clear tok2 _t; have hz2 := hb2.size; (try simp only [sA, sB, sC, sD] at hz2); (try (obtain ⟨qi, qj, qq⟩ := cf2 hb2 (w.heap.size); simp [go_sem, *] at qi qj qq)); (try have xe : w.heap.size < w2.heap.size := by omega); (try (obtain ⟨qk, ql, qr⟩ := cf2 hb2 (w.heap.size + 1); simp [go_sem, *] at qk ql qr)); (try have xf : w.heap.size + 1 < w2.heap.size := by omega); (try clear qa qb qg); (try clear qm); (try clear qc qf qh); (try clear qp)) | (have _t := tok3; go_at_call 43; (with_reducible refine ((T3 _).out).mono ?_); rintro e w3 ⟨rfl, hb3⟩; clear tok3 _t; have hz3 := hb3.size; (try simp only [sA, sB, sC, sD] at hz3); (try (obtain ⟨qw, qz, xg⟩ := cf2 hb3 (w.heap.size); simp [go_sem, *] at qw qz xg)); (try have xj : w.heap.size < w3.heap.size := by omega); (try (obtain ⟨xa, xb, xh⟩ := cf2 hb3 (w.heap.size + 1); simp [go_sem, *] at xa xb xh)); (try have xk : w.heap.size + 1 < w3.heap.size := by omega); (try (obtain ⟨qt, qu, xc⟩ := cf2 hb3 (w2.heap.size); simp [go_sem, *] at qt qu xc)); (try have xi : w2.heap.size < w3.heap.size := by omega); (try clear qa qb qg); (try clear qm); (try clear qc qf qh); (try clear qp); (try clear qi qj qq); (try clear xe); (try clear qk ql qr); (try clear xf)))
   (refine bodyPost_ret (v := .tuple #[.agg #[.int .i64 0, .int .i64 0], .int .i64 0, .bool false]) (by simp [results, Tryz.results15, go_sem, *]) rfl ⟨rfl, by exact bel⟩)
  ·rw [hv] at T3
   simp only [ifZ_t]
   clear hv
   have tok1 := trivial
   have tok2 := trivial
   have tok3 := trivial
   go_enter Tryz.func15, Tryz.ntmps15
   go_wp2_with (first | (have _t := tok1; go_at_call 31; (with_reducible refine ((T1 _).out).mono ?_); rintro e w1 ⟨rfl, hb1⟩; clear tok1 _t; have hz1 := hb1.size; (try simp only [sA, sB, sC, sD] at hz1); (try (obtain ⟨qa, qb, qg⟩ := cf2 hb1 (w.heap.size); simp [go_sem, *] at qa qb qg)); (try have qm : w.heap.size < w1.heap.size := by omega); (try (obtain ⟨qc, qf, qh⟩ := cf2 hb1 (w.heap.size + 1); simp [go_sem, *] at qc qf qh)); (try have qp : w.heap.size + 1 < w1.heap.size := by omega)) | (have _t := tok2; go_at_call 42; (with_reducible refine ((T2 _).out).mono ?_); rintro e w2 ⟨u, rfl, hb2⟩; clear tok2 _t; have hz2 := hb2.size; (try simp only [sA, sB, sC, sD] at hz2); (try (obtain ⟨qi, qj, qq⟩ := cf2 hb2 (w.heap.size); simp [go_sem, *] at qi qj qq)); (try have xe : w.heap.size < w2.heap.size := by omega); (try (obtain ⟨qk, ql, qr⟩ := cf2 hb2 (w.heap.size + 1); simp [go_sem, *] at qk ql qr)); (try have xf : w.heap.size + 1 < w2.heap.size := by omega); (try clear qa qb qg); (try clear qm); (try clear qc qf qh); (try clear qp)) | (have _t := tok3; go_at_call 43; (with_reducible refine ((T3 _).out).mono ?_); rintro e w3 ⟨rfl, hb3⟩; clear tok3 _t; have hz3 := hb3.size; (try simp only [sA, sB, sC, sD] at hz3); (try (obtain ⟨qw, qz, xg⟩ := cf2 hb3 (w.heap.size); simp [go_sem, *] at qw qz xg)); (try have xj : w.heap.size < w3.heap.size := by omega); (try (obtain ⟨xa, xb, xh⟩ := cf2 hb3 (w.heap.size + 1); simp [go_sem, *] at xa xb xh)); (try have xk : w.heap.size + 1 < w3.heap.size := by omega); (try (obtain ⟨qt, qu, xc⟩ := cf2 hb3 (w2.heap.size); simp [go_sem, *] at qt qu xc)); (try have xi : w2.heap.size < w3.heap.size := by omega); (try clear qa qb qg); (try clear qm); (try clear qc qf qh); (try clear qp); (try clear qi qj qq); (try clear xe); (try clear qk ql qr); (try clear xf)))
   (refine bodyPost_ret (v := .tuple #[.agg #[.int .i64 x, .int .i64 y], .int .i64 z, .bool true]) (by simp [results, Tryz.results15, go_sem, *]) rfl ⟨rfl, by exact bel⟩)
end Go.Proofs.YtnemnkbcbokafaaGreat
