/- Lemmas and contracts of functions. No condition. -/
import Derived.Test.YtbnglnbcfabmgaaPk21
namespace Go.Proofs.Ytbnglnbcfabmgaa
open Go.RowKit
set_option linter.unusedVariables false
set_option maxHeartbeats 2000000
set_option maxRecDepth 20000
set_option linter.unusedSimpArgs false
attribute [local go_sem] openAt openUpon
theorem eql_pt2 (x y e x2 y2 e2 : Int) (W : World) : (binOp .eql 45 (.agg #[.int .i64 x, .int .i64 y, .int .i64 e]) (.agg #[.int .i64 x2, .int .i64 y2, .int .i64 e2])).run Try.prog W = .ok (.bool (decide (x = x2 ∧ y = y2 ∧ e = e2))) W := by
 by_cases hx : x = x2
 ·by_cases hy : y = y2
  ·by_cases he : e = e2 <;> simp [go_sem, hx, hy, he]
  ·simp [go_sem, hx, hy]
 ·simp [go_sem, hx]
theorem sl_bd {A x1 y1 e1 x2 y2 e2 : Int} (hA : -1000 ≤ A ∧ A ≤ 1000) (hx1 : -10000 ≤ x1 ∧ x1 ≤ 10000) (hx2 : -10000 ≤ x2 ∧ x2 ≤ 10000) (hy1 : -3000000 ≤ y1 ∧ y1 ≤ 3000000) (hy2 : -3000000 ≤ y2 ∧ y2 ≤ 3000000) (he1 : 1 ≤ e1 ∧ e1 ≤ 20) (he2 : 1 ≤ e2 ∧ e2 ≤ 20) :
 (-48000000000 ≤ y2*e1*e1*e1 - y1*e2*e2*e2 ∧ y2*e1*e1*e1 - y1*e2*e2*e2 ≤ 48000000000) ∧ (-3200000000 ≤ e1*e2*(x2*e1*e1 - x1*e2*e2) ∧ e1*e2*(x2*e1*e1 - x1*e2*e2) ≤ 3200000000) ∧
 (-460000000 ≤ 3*x1*x1 + A*e1*e1*e1*e1 ∧ 3*x1*x1 + A*e1*e1*e1*e1 ≤ 460000000) ∧ (-120000000 ≤ 2*y1*e1 ∧ 2*y1*e1 ≤ 120000000) := by
 have a1 := mul_bd (a := y2) (b := e1) (A := 3000000) (B := 20) (by omega) (by omega)
 have a2 := mul_bd (a := y2*e1) (b := e1) (A := 60000000) (B := 20) (by omega) (by omega)
 have a3 := mul_bd (a := y2*e1*e1) (b := e1) (A := 1200000000) (B := 20) (by omega) (by omega)
 have b1 := mul_bd (a := y1) (b := e2) (A := 3000000) (B := 20) (by omega) (by omega)
 have b2 := mul_bd (a := y1*e2) (b := e2) (A := 60000000) (B := 20) (by omega) (by omega)
 have b3 := mul_bd (a := y1*e2*e2) (b := e2) (A := 1200000000) (B := 20) (by omega) (by omega)
 have c1 := mul_bd (a := x2) (b := e1) (A := 10000) (B := 20) (by omega) (by omega)
 have c2 := mul_bd (a := x2*e1) (b := e1) (A := 200000) (B := 20) (by omega) (by omega)
 have d1 := mul_bd (a := x1) (b := e2) (A := 10000) (B := 20) (by omega) (by omega)
 have d2 := mul_bd (a := x1*e2) (b := e2) (A := 200000) (B := 20) (by omega) (by omega)
 have f1 := mul_bd (a := e1) (b := e2) (A := 20) (B := 20) (by omega) (by omega)
 have f2 := mul_bd (a := e1*e2) (b := x2*e1*e1 - x1*e2*e2) (A := 400) (B := 8000000) (by omega) (by omega)
 have g1 := mul_bd (a := 3*x1) (b := x1) (A := 30000) (B := 10000) (by omega) (by omega)
 have h1 := mul_bd (a := A) (b := e1) (A := 1000) (B := 20) (by omega) (by omega)
 have h2 := mul_bd (a := A*e1) (b := e1) (A := 20000) (B := 20) (by omega) (by omega)
 have h3 := mul_bd (a := A*e1*e1) (b := e1) (A := 400000) (B := 20) (by omega) (by omega)
 have h4 := mul_bd (a := A*e1*e1*e1) (b := e1) (A := 8000000) (B := 20) (by omega) (by omega)
 have i1 := mul_bd (a := 2*y1) (b := e1) (A := 6000000) (B := 20) (by omega) (by omega)
 omega
theorem ptSlope_any (A B x1 y1 e1 x2 y2 e2 : Int) (w : World) (hA : -1000 ≤ A ∧ A ≤ 1000) (hx1 : -10000 ≤ x1 ∧ x1 ≤ 10000) (hx2 : -10000 ≤ x2 ∧ x2 ≤ 10000) (hy1 : -3000000 ≤ y1 ∧ y1 ≤ 3000000) (hy2 : -3000000 ≤ y2 ∧ y2 ≤ 3000000) (he1 : 1 ≤ e1 ∧ e1 ≤ 20) (he2 : 1 ≤ e2 ∧ e2 ≤ 20) :
  Calls Try.prog 72 #[.agg #[.int .i64 A, .int .i64 B], .agg #[.int .i64 x1, .int .i64 y1, .int .i64 e1], .agg #[.int .i64 x2, .int .i64 y2, .int .i64 e2]] w fun e w' =>
   e = .returned (.tuple #[.int .i64 (if slD x1 y1 e1 x2 y2 e2 = 0 then 1 else mkN (slN A x1 y1 e1 x2 y2 e2) (slD x1 y1 e1 x2 y2 e2)), .int .i64 (if slD x1 y1 e1 x2 y2 e2 = 0 then 0 else mkD (slN A x1 y1 e1 x2 y2 e2) (slD x1 y1 e1 x2 y2 e2))]) ∧ Below w.heap.size w w' := by
 have hb := sl_bd hA hx1 hx2 hy1 hy2 he1 he2
 have a1 := mul_bd (a := y2) (b := e1) (A := 3000000) (B := 20) (by omega) (by omega)
 have a2 := mul_bd (a := y2*e1) (b := e1) (A := 60000000) (B := 20) (by omega) (by omega)
 have a3 := mul_bd (a := y2*e1*e1) (b := e1) (A := 1200000000) (B := 20) (by omega) (by omega)
 have b1 := mul_bd (a := y1) (b := e2) (A := 3000000) (B := 20) (by omega) (by omega)
 have b2 := mul_bd (a := y1*e2) (b := e2) (A := 60000000) (B := 20) (by omega) (by omega)
 have b3 := mul_bd (a := y1*e2*e2) (b := e2) (A := 1200000000) (B := 20) (by omega) (by omega)
 have c1 := mul_bd (a := x2) (b := e1) (A := 10000) (B := 20) (by omega) (by omega)
 have c2 := mul_bd (a := x2*e1) (b := e1) (A := 200000) (B := 20) (by omega) (by omega)
 have d1 := mul_bd (a := x1) (b := e2) (A := 10000) (B := 20) (by omega) (by omega)
 have d2 := mul_bd (a := x1*e2) (b := e2) (A := 200000) (B := 20) (by omega) (by omega)
 have f1 := mul_bd (a := e1) (b := e2) (A := 20) (B := 20) (by omega) (by omega)
 by_cases hs : x1 = x2 ∧ y1 = y2 ∧ e1 = e2
 ·have hq := fun (W : World) => eql_pt2 x1 y1 e1 x2 y2 e2 W
  rw [show decide (x1 = x2 ∧ y1 = y2 ∧ e1 = e2) = true by simpa using hs] at hq
  have HN : slN A x1 y1 e1 x2 y2 e2 = 3*x1*x1 + A*e1*e1*e1*e1 := by simp only [slN, if_pos hs]
  have HD : slD x1 y1 e1 x2 y2 e2 = 2*y1*e1 := by simp only [slD, if_pos hs]
  rw [HN, HD]
  have g1 := mul_bd (a := 3*x1) (b := x1) (A := 30000) (B := 10000) (by omega) (by omega)
  have h1 := mul_bd (a := A) (b := e1) (A := 1000) (B := 20) (by omega) (by omega)
  have h2 := mul_bd (a := A*e1) (b := e1) (A := 20000) (B := 20) (by omega) (by omega)
  have h3 := mul_bd (a := A*e1*e1) (b := e1) (A := 400000) (B := 20) (by omega) (by omega)
  have h4 := mul_bd (a := A*e1*e1*e1) (b := e1) (A := 8000000) (B := 20) (by omega) (by omega)
  by_cases hz : 2*y1*e1 = 0
  ·rw [if_pos hz, if_pos hz]
   have T1 := 0
   clear HN HD hs
   have tok1 := trivial
   have tok2 := trivial
   go_enter Try.func72, Try.ntmps72
   go_wp2_with fail
   refine bodyPost_ret (v := _) (by simp [results, Try.results72, go_sem, *]) rfl ⟨rfl, ?_⟩
   exact bel
  ·rw [if_neg hz, if_neg hz]
   have T1 := fun W : World => ecPart_any (3*x1*x1 + A*e1*e1*e1*e1) (2*y1*e1) W hz (by omega) (by omega) (by omega) (by omega)
   clear HN HD hs
   have tok1 := trivial
   have tok2 := trivial
   go_enter Try.func72, Try.ntmps72
   go_wp2_with (first | (have _t := tok1; go_at_call 74; (with_reducible refine ((T1 _)).mono ?_); rintro e w1 ⟨rfl, hb1⟩; clear tok1 _t; have hz1 := hb1.size; (try simp only [sA, sB, sC, sD] at hz1); (try (obtain ⟨kq, qi⟩ := cfAt hb1 (w.heap.size); have qa := kq 0; have qb := kq 1; clear kq; simp [go_sem, *] at qa qb qi)); (try have ql : w.heap.size < w1.heap.size := by omega); (try (obtain ⟨kq, qj⟩ := cfAt hb1 (w.heap.size + 1); have qc := kq 0; have qd := kq 1; have qe := kq 2; clear kq; simp [go_sem, *] at qc qd qe qj)); (try have qm : w.heap.size + 1 < w1.heap.size := by omega); (try (obtain ⟨kq, qk⟩ := cfAt hb1 (w.heap.size + 1 + 1); have qf := kq 0; have qg := kq 1; have qh := kq 2; clear kq; simp [go_sem, *] at qf qg qh qk)); (try have qn : w.heap.size + 1 + 1 < w1.heap.size := by omega)))
   refine bodyPost_ret (v := _) (by simp [results, Try.results72, go_sem, *]) rfl ⟨rfl, ?_⟩
   exact bel
 ·have hq := fun (W : World) => eql_pt2 x1 y1 e1 x2 y2 e2 W
  rw [show decide (x1 = x2 ∧ y1 = y2 ∧ e1 = e2) = false by simpa using hs] at hq
  have HN : slN A x1 y1 e1 x2 y2 e2 = y2*e1*e1*e1 - y1*e2*e2*e2 := by simp only [slN, if_neg hs]
  have HD : slD x1 y1 e1 x2 y2 e2 = e1*e2*(x2*e1*e1 - x1*e2*e2) := by simp only [slD, if_neg hs]
  rw [HN, HD]
  by_cases hz : e1*e2*(x2*e1*e1 - x1*e2*e2) = 0
  ·rw [if_pos hz, if_pos hz]
   clear HN HD hs
   have tok1 := trivial
   have tok2 := trivial
   go_enter Try.func72, Try.ntmps72
   go_wp2_with fail
   refine bodyPost_ret (v := _) (by simp [results, Try.results72, go_sem, *]) rfl ⟨rfl, ?_⟩
   exact bel
  ·rw [if_neg hz, if_neg hz]
   have T1 := fun W : World => ecPart_any (y2*e1*e1*e1 - y1*e2*e2*e2) (e1*e2*(x2*e1*e1 - x1*e2*e2)) W hz (by omega) (by omega) (by omega) (by omega)
   clear HN HD hs
   have tok1 := trivial
   have tok2 := trivial
   go_enter Try.func72, Try.ntmps72
   go_wp2_with (first | (have _t := tok1; go_at_call 74; (with_reducible refine ((T1 _)).mono ?_); rintro e w1 ⟨rfl, hb1⟩; clear tok1 _t; have hz1 := hb1.size; (try simp only [sA, sB, sC, sD] at hz1); (try (obtain ⟨kq, qi⟩ := cfAt hb1 (w.heap.size); have qa := kq 0; have qb := kq 1; clear kq; simp [go_sem, *] at qa qb qi)); (try have ql : w.heap.size < w1.heap.size := by omega); (try (obtain ⟨kq, qj⟩ := cfAt hb1 (w.heap.size + 1); have qc := kq 0; have qd := kq 1; have qe := kq 2; clear kq; simp [go_sem, *] at qc qd qe qj)); (try have qm : w.heap.size + 1 < w1.heap.size := by omega); (try (obtain ⟨kq, qk⟩ := cfAt hb1 (w.heap.size + 1 + 1); have qf := kq 0; have qg := kq 1; have qh := kq 2; clear kq; simp [go_sem, *] at qf qg qh qk)); (try have qn : w.heap.size + 1 + 1 < w1.heap.size := by omega)))
   refine bodyPost_ret (v := _) (by simp [results, Try.results72, go_sem, *]) rfl ⟨rfl, ?_⟩
   exact bel
end Go.Proofs.Ytbnglnbcfabmgaa
