/- Lemmas and contracts of functions. No condition. -/
import Derived.Test.YtnemnkbcbokafaaGreatPk15
import Derived.Test.YtnemnkbcbokafaaGreatPk41
namespace Go.Proofs.YtnemnkbcbokafaaGreat
open Go.RowKit
set_option linter.unusedVariables false
set_option maxHeartbeats 2000000
set_option maxRecDepth 20000
set_option linter.unusedSimpArgs false
attribute [local go_sem] openAt openUpon
theorem opposite_any (x y e : Int) (w : World) (hy : -9223372036854775807 ≤ y ∧ y ≤ 9223372036854775807) : Calls Tryz.prog 76 #[.agg #[.int .i64 x, .int .i64 y, .int .i64 e]] w fun r w' =>
  r = .returned (.agg #[.int .i64 x, .int .i64 (-y), .int .i64 e]) ∧ Below w.heap.size w w' := by
 go_enter Tryz.func76, Tryz.ntmps76
 go_wp2_with fail
 refine bodyPost_ret (v := _) (by simp [results, Tryz.results76, go_sem, *]) rfl ⟨rfl, ?_⟩
 exact bel
theorem slope_any (A B x1 y1 e1 x2 y2 e2 : Int) (w : World) (hA : -1000 ≤ A ∧ A ≤ 1000) (hx1 : -10000 ≤ x1 ∧ x1 ≤ 10000) (hx2 : -10000 ≤ x2 ∧ x2 ≤ 10000) (hy1 : -3000000 ≤ y1 ∧ y1 ≤ 3000000) (hy2 : -3000000 ≤ y2 ∧ y2 ≤ 3000000) (he1 : 1 ≤ e1 ∧ e1 ≤ 20) (he2 : 1 ≤ e2 ∧ e2 ≤ 20) :
  Calls Tryz.prog 77 #[.agg #[.int .i64 A, .int .i64 B], .agg #[.int .i64 x1, .int .i64 y1, .int .i64 e1], .agg #[.int .i64 x2, .int .i64 y2, .int .i64 e2]] w fun e w' =>
   e = .returned (.tuple #[.int .i64 (slN A x1 y1 e1 x2 y2 e2), .int .i64 (slD x1 y1 e1 x2 y2 e2)]) ∧ Below w.heap.size w w' := by
 have hb := sl_bd hA hx1 hx2 hy1 hy2 he1 he2
 have a1 := mul_bd (a := y2) (b := e1) (A := 3000000) (B := 20) (by omega) (by omega)
 have a2 := mul_bd (a := y2*e1) (b := e1) (A := 60000000) (B := 20) (by omega) (by omega)
 have a3 := mul_bd (a := y2*e1*e1) (b := e1) (A := 1200000000) (B := 20) (by omega) (by omega)
 have b1 := mul_bd (a := y1) (b := e2) (A := 3000000) (B := 20) (by omega) (by omega)
 have b2 := mul_bd (a := y1*e2) (b := e2) (A := 60000000) (B := 20) (by omega) (by omega)
 have b3 := mul_bd (a := y1*e2*e2) (b := e2) (A := 1200000000) (B := 20) (by omega) (by omega)
 have c1 := mul_bd (a := x2) (b := e1) (A := 10000) (B := 20) (by omega) (by omega)
 have c2 := mul_bd (a := x2*e1) (b := e1) (A := 200000) (B := 20) (by omega) (by omega)
 have d1 := mul_bd (a := x1) (b := e2) (A := 10000) (B := 20) (by omega) (by omega)
 have d2 := mul_bd (a := x1*e2) (b := e2) (A := 200000) (B := 20) (by omega) (by omega)
 have f1 := mul_bd (a := e1) (b := e2) (A := 20) (B := 20) (by omega) (by omega)
 by_cases hs : x1 = x2 ∧ y1 = y2 ∧ e1 = e2
 ·have hq := fun (W : World) => eql_pt2 x1 y1 e1 x2 y2 e2 W
  rw [show decide (x1 = x2 ∧ y1 = y2 ∧ e1 = e2) = true by simpa using hs] at hq
  have HN : slN A x1 y1 e1 x2 y2 e2 = 3*x1*x1 + A*e1*e1*e1*e1 := by simp only [slN, if_pos hs]
  have HD : slD x1 y1 e1 x2 y2 e2 = 2*y1*e1 := by simp only [slD, if_pos hs]
  rw [HN, HD]
  have g1 := mul_bd (a := 3*x1) (b := x1) (A := 30000) (B := 10000) (by omega) (by omega)
  have h1 := mul_bd (a := A) (b := e1) (A := 1000) (B := 20) (by omega) (by omega)
  have h2 := mul_bd (a := A*e1) (b := e1) (A := 20000) (B := 20) (by omega) (by omega)
  have h3 := mul_bd (a := A*e1*e1) (b := e1) (A := 400000) (B := 20) (by omega) (by omega)
  have h4 := mul_bd (a := A*e1*e1*e1) (b := e1) (A := 8000000) (B := 20) (by omega) (by omega)
  clear HN HD hs
  go_enter Tryz.func77, Tryz.ntmps77
  go_upto_region 2 with fail
  refine wp_drawn' (n := 28) (by kernel_rfl) (by kernel_rfl) (by kernel_rfl) ?_
  apply Exists.intro
  refine ⟨?_, ?_⟩
  ·intro W hW
   try (have qa := fun x => xcell hW (w.heap.size) (by go_size) x 0; simp [go_sem, *] at qa)
   try (have qb := fun x => xcell hW (w.heap.size) (by go_size) x 1; simp [go_sem, *] at qb)
   try (have qc := fun x => xcell hW (w.heap.size + 1) (by go_size) x 0; simp [go_sem, *] at qc)
   try (have qf := fun x => xcell hW (w.heap.size + 1) (by go_size) x 1; simp [go_sem, *] at qf)
   try (have qg := fun x => xcell hW (w.heap.size + 1) (by go_size) x 2; simp [go_sem, *] at qg)
   try (have qh := fun x => xcell hW (w.heap.size + 1 + 1) (by go_size) x 0; simp [go_sem, *] at qh)
   try (have qi := fun x => xcell hW (w.heap.size + 1 + 1) (by go_size) x 1; simp [go_sem, *] at qi)
   try (have qj := fun x => xcell hW (w.heap.size + 1 + 1) (by go_size) x 2; simp [go_sem, *] at qj)
   simp only [List.take_succ_cons, List.take_zero]
   repeat (go_big_quiet_step (fail))
   exact wpQuiet_nil rfl
  intro w1 hb1
  simp only [List.drop_succ_cons, List.drop_zero, Act.put, List.setIfInBounds_toArray, List.set_cons_succ, List.set_cons_zero]
  have hz1 := hb1.size
  (try simp only [sA, sB, sC, sD] at hz1)
  (try (obtain ⟨qk, ql, qw⟩ := cf2 hb1 (w.heap.size); simp [go_sem, *] at qk ql qw))
  (try have xb : w.heap.size < w1.heap.size := by omega)
  (try (obtain ⟨qm, qp, qq, qz⟩ := cf3 hb1 (w.heap.size + 1); simp [go_sem, *] at qm qp qq qz))
  (try have xc : w.heap.size + 1 < w1.heap.size := by omega)
  (try (obtain ⟨qr, qt, qu, xa⟩ := cf3 hb1 (w.heap.size + 1 + 1); simp [go_sem, *] at qr qt qu xa))
  (try have xe : w.heap.size + 1 + 1 < w1.heap.size := by omega)
  go_wp2_with fail
  go_ret2
  exact ⟨rfl, by exact bel⟩
 ·have hq := fun (W : World) => eql_pt2 x1 y1 e1 x2 y2 e2 W
  rw [show decide (x1 = x2 ∧ y1 = y2 ∧ e1 = e2) = false by simpa using hs] at hq
  have HN : slN A x1 y1 e1 x2 y2 e2 = y2*e1*e1*e1 - y1*e2*e2*e2 := by simp only [slN, if_neg hs]
  have HD : slD x1 y1 e1 x2 y2 e2 = e1*e2*(x2*e1*e1 - x1*e2*e2) := by simp only [slD, if_neg hs]
  rw [HN, HD]
  clear HN HD hs
  go_enter Tryz.func77, Tryz.ntmps77
  go_wp2_with fail
  go_ret2
  exact ⟨rfl, by exact bel⟩
end Go.Proofs.YtnemnkbcbokafaaGreat
