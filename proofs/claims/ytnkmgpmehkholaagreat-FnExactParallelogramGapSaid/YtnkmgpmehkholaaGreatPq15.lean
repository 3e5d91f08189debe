/- Lemmas and contracts of functions. No condition. -/
import Derived.Test.YtnkmgpmehkholaaGreatPq3
import Derived.Test.YtnkmgpmehkholaaGreatPq5
import Derived.Test.YtnkmgpmehkholaaGreatPq9
namespace Go.Proofs.YtnkmgpmehkholaaGreat
open Go.RowKit
set_option linter.unusedVariables false
set_option maxHeartbeats 4000000
set_option linter.unusedSimpArgs false

theorem valid_any (a b : Int) (w : World) : Calls Tryz.prog 38 #[.agg #[.int .i64 a, .int .i64 b]] w fun e w' => e = .returned (.bool (validB a b)) ∧ Below w.heap.size w w' := by
 go_enter Tryz.func38, Tryz.ntmps38
 go_wp2
 all_goals
  go_ret
  refine ⟨ret_bool ?_, ?_⟩
  ·unfold validB; rw [Bool.eq_iff_iff]; simp; try omega
  exact bel

theorem span_bd {a b : Int} (h : validB a b = true) : -409600000 ≤ a ∧ a ≤ 409600000 ∧ -409600000 ≤ b ∧ b ≤ 409600000 := by
 have := validB_bd h; omega
theorem makeGrid_any (a : Int) (w : World) (h1 : -409600000 ≤ a) (h2 : a ≤ 409600000) :
  Calls Tryz.prog 22 #[.int .i64 a, .int .i64 4096] w fun e w' => e = .returned (.tuple #[.agg #[.int .i64 (mkN a 4096), .int .i64 (mkD a 4096)], .bool true]) ∧ Below w.heap.size w w' := by
 have := makeFraction_any a 4096 w (by omega) (by omega) (by omega) (by omega) (by omega)
 rw [mkF_grid (by omega) (by omega)] at this
 exact this
theorem interval_any (a b : Int) (ok : Bool) (w : World) : Calls Tryz.prog 20 #[.agg #[.int .i64 a, .int .i64 b], .bool ok] w fun e w' => e = .returned (ivV ok a b) ∧ Below w.heap.size w w' := by
 have hnot : ∀ (x : Bool) (w : World), (Op.unary .not (.bool x)).run Tryz.prog w = .ok (.bool (!x)) w := fun _ _ => rfl
 cases ok
 ·have HN := Lib.hid (ivV_no (ok := false) (a := a) (b := b) rfl)
  have tok1 := trivial
  have tok2 := trivial
  have tok3 := trivial
  go_enter Tryz.func20, Tryz.ntmps20
  go_wp2_with (first | (have _t := tok1; go_at_call 38; refine (valid_any _ _ _).mono ?_; rintro e w1 ⟨rfl, hb1⟩; clear tok1 _t; have hz1 := hb1.size; (try simp only [sA, sB, sC, sD] at hz1); (try (obtain ⟨kq, qi⟩ := cfAt hb1 (w.heap.size); have qc := kq 0; have qd := kq 1; clear kq; simp [go_sem, *] at qc qd qi)); (try have qr : w.heap.size < w1.heap.size := by omega); (try (obtain ⟨kq, qj⟩ := cfAt hb1 (w.heap.size + 1); have qe := kq 0; have qf := kq 1; have qg := kq 2; have qh := kq 3; clear kq; simp [go_sem, *] at qe qf qg qh qj)); (try have qt : w.heap.size + 1 < w1.heap.size := by omega)) | (have _t := tok2; go_at_call 22; refine (makeGrid_any _ _ (by omega) (by omega)).mono ?_; rintro e w2 ⟨rfl, hb2⟩; clear tok2 _t; have hz2 := hb2.size; (try simp only [sA, sB, sC, sD] at hz2); (try (obtain ⟨kq, qu⟩ := cfAt hb2 (w.heap.size); have qk := kq 0; have ql := kq 1; clear kq; simp [go_sem, *] at qk ql qu)); (try have xh : w.heap.size < w2.heap.size := by omega); (try (obtain ⟨kq, qv⟩ := cfAt hb2 (w.heap.size + 1); have qm := kq 0; have qn := kq 1; have qo := kq 2; have qq := kq 3; clear kq; simp [go_sem, *] at qm qn qo qq qv)); (try have xi : w.heap.size + 1 < w2.heap.size := by omega); (try clear qc qd qi); (try clear qr); (try clear qe qf qg qh qj); (try clear qt)) | (have _t := tok3; go_at_call 22; refine (makeGrid_any _ _ (by omega) (by omega)).mono ?_; rintro e w3 ⟨rfl, hb3⟩; clear tok3 _t; have hz3 := hb3.size; (try simp only [sA, sB, sC, sD] at hz3); (try (obtain ⟨kq, xj⟩ := cfAt hb3 (w.heap.size); have qy := kq 0; have qz := kq 1; clear kq; simp [go_sem, *] at qy qz xj)); (try have xm : w.heap.size < w3.heap.size := by omega); (try (obtain ⟨kq, xk⟩ := cfAt hb3 (w.heap.size + 1); have xc := kq 0; have xd := kq 1; have xe := kq 2; have xf := kq 3; clear kq; simp [go_sem, *] at xc xd xe xf xk)); (try have xn : w.heap.size + 1 < w3.heap.size := by omega); (try (obtain ⟨kq, xg⟩ := cfAt hb3 (w2.heap.size); have qw := kq 0; have qx := kq 1; clear kq; simp [go_sem, *] at qw qx xg)); (try have xl : w2.heap.size < w3.heap.size := by omega); (try clear qc qd qi); (try clear qr); (try clear qe qf qg qh qj); (try clear qt); (try clear qk ql qu); (try clear xh); (try clear qm qn qo qq qv); (try clear xi)))
  rw [HN.out]
  refine bodyPost_ret (v := .tuple #[.agg #[.int .i64 0, .int .i64 0, .int .i64 0, .int .i64 0], .bool false]) (by simp [results, Tryz.results20, go_sem, *]) rfl ⟨rfl, ?_⟩
  exact bel
 ·by_cases h : validB a b = true
  ·have hb := span_bd h
   have HN := Lib.hid (ivV_yes h)
   have tok1 := trivial
   have tok2 := trivial
   have tok3 := trivial
   go_enter Tryz.func20, Tryz.ntmps20
   go_wp2_with (first | (have _t := tok1; go_at_call 38; refine (valid_any _ _ _).mono ?_; rintro e w1 ⟨rfl, hb1⟩; clear tok1 _t; have hz1 := hb1.size; (try simp only [sA, sB, sC, sD] at hz1); (try (obtain ⟨kq, qi⟩ := cfAt hb1 (w.heap.size); have qc := kq 0; have qd := kq 1; clear kq; simp [go_sem, *] at qc qd qi)); (try have qr : w.heap.size < w1.heap.size := by omega); (try (obtain ⟨kq, qj⟩ := cfAt hb1 (w.heap.size + 1); have qe := kq 0; have qf := kq 1; have qg := kq 2; have qh := kq 3; clear kq; simp [go_sem, *] at qe qf qg qh qj)); (try have qt : w.heap.size + 1 < w1.heap.size := by omega)) | (have _t := tok2; go_at_call 22; refine (makeGrid_any _ _ (by omega) (by omega)).mono ?_; rintro e w2 ⟨rfl, hb2⟩; clear tok2 _t; have hz2 := hb2.size; (try simp only [sA, sB, sC, sD] at hz2); (try (obtain ⟨kq, qu⟩ := cfAt hb2 (w.heap.size); have qk := kq 0; have ql := kq 1; clear kq; simp [go_sem, *] at qk ql qu)); (try have xh : w.heap.size < w2.heap.size := by omega); (try (obtain ⟨kq, qv⟩ := cfAt hb2 (w.heap.size + 1); have qm := kq 0; have qn := kq 1; have qo := kq 2; have qq := kq 3; clear kq; simp [go_sem, *] at qm qn qo qq qv)); (try have xi : w.heap.size + 1 < w2.heap.size := by omega); (try clear qc qd qi); (try clear qr); (try clear qe qf qg qh qj); (try clear qt)) | (have _t := tok3; go_at_call 22; refine (makeGrid_any _ _ (by omega) (by omega)).mono ?_; rintro e w3 ⟨rfl, hb3⟩; clear tok3 _t; have hz3 := hb3.size; (try simp only [sA, sB, sC, sD] at hz3); (try (obtain ⟨kq, xj⟩ := cfAt hb3 (w.heap.size); have qy := kq 0; have qz := kq 1; clear kq; simp [go_sem, *] at qy qz xj)); (try have xm : w.heap.size < w3.heap.size := by omega); (try (obtain ⟨kq, xk⟩ := cfAt hb3 (w.heap.size + 1); have xc := kq 0; have xd := kq 1; have xe := kq 2; have xf := kq 3; clear kq; simp [go_sem, *] at xc xd xe xf xk)); (try have xn : w.heap.size + 1 < w3.heap.size := by omega); (try (obtain ⟨kq, xg⟩ := cfAt hb3 (w2.heap.size); have qw := kq 0; have qx := kq 1; clear kq; simp [go_sem, *] at qw qx xg)); (try have xl : w2.heap.size < w3.heap.size := by omega); (try clear qc qd qi); (try clear qr); (try clear qe qf qg qh qj); (try clear qt); (try clear qk ql qu); (try clear xh); (try clear qm qn qo qq qv); (try clear xi)))
   rw [HN.out]
   refine bodyPost_ret (v := .tuple #[.agg #[.int .i64 (mkN a 4096), .int .i64 (mkD a 4096), .int .i64 (mkN b 4096), .int .i64 (mkD b 4096)], .bool true]) (by simp [results, Tryz.results20, go_sem, *]) rfl ⟨rfl, ?_⟩
   exact bel
  ·simp only [Bool.not_eq_true] at h
   have HN := Lib.hid (ivV_no (ok := true) (a := a) (b := b) (by simp [h]))
   have tok1 := trivial
   have tok2 := trivial
   have tok3 := trivial
   go_enter Tryz.func20, Tryz.ntmps20
   go_wp2_with (first | (have _t := tok1; go_at_call 38; refine (valid_any _ _ _).mono ?_; rintro e w1 ⟨rfl, hb1⟩; clear tok1 _t; have hz1 := hb1.size; (try simp only [sA, sB, sC, sD] at hz1); (try (obtain ⟨kq, qi⟩ := cfAt hb1 (w.heap.size); have qc := kq 0; have qd := kq 1; clear kq; simp [go_sem, *] at qc qd qi)); (try have qr : w.heap.size < w1.heap.size := by omega); (try (obtain ⟨kq, qj⟩ := cfAt hb1 (w.heap.size + 1); have qe := kq 0; have qf := kq 1; have qg := kq 2; have qh := kq 3; clear kq; simp [go_sem, *] at qe qf qg qh qj)); (try have qt : w.heap.size + 1 < w1.heap.size := by omega)) | (have _t := tok2; go_at_call 22; refine (makeGrid_any _ _ (by omega) (by omega)).mono ?_; rintro e w2 ⟨rfl, hb2⟩; clear tok2 _t; have hz2 := hb2.size; (try simp only [sA, sB, sC, sD] at hz2); (try (obtain ⟨kq, qu⟩ := cfAt hb2 (w.heap.size); have qk := kq 0; have ql := kq 1; clear kq; simp [go_sem, *] at qk ql qu)); (try have xh : w.heap.size < w2.heap.size := by omega); (try (obtain ⟨kq, qv⟩ := cfAt hb2 (w.heap.size + 1); have qm := kq 0; have qn := kq 1; have qo := kq 2; have qq := kq 3; clear kq; simp [go_sem, *] at qm qn qo qq qv)); (try have xi : w.heap.size + 1 < w2.heap.size := by omega); (try clear qc qd qi); (try clear qr); (try clear qe qf qg qh qj); (try clear qt)) | (have _t := tok3; go_at_call 22; refine (makeGrid_any _ _ (by omega) (by omega)).mono ?_; rintro e w3 ⟨rfl, hb3⟩; clear tok3 _t; have hz3 := hb3.size; (try simp only [sA, sB, sC, sD] at hz3); (try (obtain ⟨kq, xj⟩ := cfAt hb3 (w.heap.size); have qy := kq 0; have qz := kq 1; clear kq; simp [go_sem, *] at qy qz xj)); (try have xm : w.heap.size < w3.heap.size := by omega); (try (obtain ⟨kq, xk⟩ := cfAt hb3 (w.heap.size + 1); have xc := kq 0; have xd := kq 1; have xe := kq 2; have xf := kq 3; clear kq; simp [go_sem, *] at xc xd xe xf xk)); (try have xn : w.heap.size + 1 < w3.heap.size := by omega); (try (obtain ⟨kq, xg⟩ := cfAt hb3 (w2.heap.size); have qw := kq 0; have qx := kq 1; clear kq; simp [go_sem, *] at qw qx xg)); (try have xl : w2.heap.size < w3.heap.size := by omega); (try clear qc qd qi); (try clear qr); (try clear qe qf qg qh qj); (try clear qt); (try clear qk ql qu); (try clear xh); (try clear qm qn qo qq qv); (try clear xi)))
   rw [HN.out]
   refine bodyPost_ret (v := .tuple #[.agg #[.int .i64 0, .int .i64 0, .int .i64 0, .int .i64 0], .bool false]) (by simp [results, Tryz.results20, go_sem, *]) rfl ⟨rfl, ?_⟩
   exact bel
end Go.Proofs.YtnkmgpmehkholaaGreat
