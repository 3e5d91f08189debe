/- Lemmas and contracts of functions. No condition. -/
import Derived.Test.YtnkmgpmehkholaaGreatPq3
import Derived.Test.YtnkmgpmehkholaaGreatPq5
import Derived.Test.YtnkmgpmehkholaaGreatPq9
namespace Go.Proofs.YtnkmgpmehkholaaGreat
section
open Go.RowKit
set_option linter.unusedVariables false
set_option maxHeartbeats 4000000
set_option linter.unusedSimpArgs false

theorem ivPlace_any (n d : Int) (w : World) : Calls Tryz.prog 66 #[.agg #[.int .i64 n, .int .i64 d]] w fun e w' => e = .returned (.tuple #[.int .i64 (plN n d), .bool (plB n d)]) ∧ Below w.heap.size w w' := by
 by_cases h1 : frB n d = true
 ·have b1 := frB_bd h1
  by_cases h3 : 4096 % d = 0
  ·have p1 : pre1 n d = true := by simp [pre1, h1, h3]
   have q1 := quo_bd d (by omega)
   have m1 := mul_bd (a := n) (b := 4096 / d) (A := 1000000000) (B := 4096) (by omega) (by omega)
   have HY := Lib.hid (show plN n d = n * (4096 / d) ∧ plB n d = inB (n * (4096 / d)) (-409600000) 409600000 from ⟨plN_pre p1, by rw [plB, p1, plN_pre p1]; rfl⟩)
   rw [HY.out.1, HY.out.2]
   clear p1
   have tok1 := trivial
   go_enter Tryz.func66, Tryz.ntmps66
   go_wp2_with (first | (have _t := tok1; go_at_call 68; refine (frGood_any _ _ _).mono ?_; rintro e w1 ⟨rfl, hb1⟩; clear tok1 _t; have hz1 := hb1.size; (try simp only [sA, sB, sC, sD] at hz1); (try (obtain ⟨kq, qe⟩ := cfAt hb1 (w.heap.size); have qc := kq 0; have qd := kq 1; clear kq; simp [go_sem, *] at qc qd qe)); (try have qf : w.heap.size < w1.heap.size := by omega)) | (go_at_call 47; refine (l1In_any _ _ _ _).mono ?_; rintro e w' ⟨rfl, rfl⟩))
   refine wp_drawn' (n := 6) (by kernel_rfl) (by kernel_rfl) (by kernel_rfl) ?_
   apply Exists.intro
   refine ⟨?_, ?_⟩
   ·intro W hW
    try (have qg := fun x => xcell hW (w.heap.size) (by go_size) x 0; simp [go_sem, *] at qg)
    try (have qh := fun x => xcell hW (w.heap.size) (by go_size) x 1; simp [go_sem, *] at qh)
    simp only [List.take_succ_cons, List.take_zero]
    repeat (go_big_quiet_step (fail))
    exact wpQuiet_nil rfl
   intro w2 hb2
   simp only [List.drop_succ_cons, List.drop_zero, Act.put, List.setIfInBounds_toArray, List.set_cons_succ, List.set_cons_zero]
   have hz2 := hb2.size
   (try simp only [sA, sB, sC, sD] at hz2)
   (try (obtain ⟨kq, qk⟩ := cfAt hb2 (w.heap.size); have qi := kq 0; have qj := kq 1; clear kq; simp [go_sem, *] at qi qj qk))
   (try have ql : w.heap.size < w2.heap.size := by omega)
   (try clear qc qd qe)
   (try clear qf)
   go_wp2_with (first | (have _t := tok1; go_at_call 68; refine (frGood_any _ _ _).mono ?_; rintro e w1 ⟨rfl, hb1⟩; clear tok1 _t; have hz1 := hb1.size; (try simp only [sA, sB, sC, sD] at hz1); (try (obtain ⟨kq, qe⟩ := cfAt hb1 (w.heap.size); have qc := kq 0; have qd := kq 1; clear kq; simp [go_sem, *] at qc qd qe)); (try have qf : w.heap.size < w1.heap.size := by omega)) | (go_at_call 47; refine (l1In_any _ _ _ _).mono ?_; rintro e w' ⟨rfl, rfl⟩))
   go_ret2
   refine ⟨rfl, ?_⟩
   exact bel
  ·have p1 : pre1 n d = false := by simp [pre1, h3]
   have HY := Lib.hid (show plN n d = 0 ∧ plB n d = false from ⟨by simp [plN, p1], by simp [plB, p1]⟩)
   rw [HY.out.1, HY.out.2]
   clear p1
   have tok1 := trivial
   go_enter Tryz.func66, Tryz.ntmps66
   go_wp2_with (first | (have _t := tok1; go_at_call 68; refine (frGood_any _ _ _).mono ?_; rintro e w1 ⟨rfl, hb1⟩; clear tok1 _t; have hz1 := hb1.size; (try simp only [sA, sB, sC, sD] at hz1); (try (obtain ⟨kq, qe⟩ := cfAt hb1 (w.heap.size); have qc := kq 0; have qd := kq 1; clear kq; simp [go_sem, *] at qc qd qe)); (try have qf : w.heap.size < w1.heap.size := by omega)) | (go_at_call 47; refine (l1In_any _ _ _ _).mono ?_; rintro e w' ⟨rfl, rfl⟩))
   go_ret2
   refine ⟨rfl, ?_⟩
   exact bel
 ·simp only [Bool.not_eq_true] at h1
  have p1 : pre1 n d = false := by simp [pre1, h1]
  have HY := Lib.hid (show plN n d = 0 ∧ plB n d = false from ⟨by simp [plN, p1], by simp [plB, p1]⟩)
  rw [HY.out.1, HY.out.2]
  clear p1
  have tok1 := trivial
  go_enter Tryz.func66, Tryz.ntmps66
  go_wp2_with (first | (have _t := tok1; go_at_call 68; refine (frGood_any _ _ _).mono ?_; rintro e w1 ⟨rfl, hb1⟩; clear tok1 _t; have hz1 := hb1.size; (try simp only [sA, sB, sC, sD] at hz1); (try (obtain ⟨kq, qe⟩ := cfAt hb1 (w.heap.size); have qc := kq 0; have qd := kq 1; clear kq; simp [go_sem, *] at qc qd qe)); (try have qf : w.heap.size < w1.heap.size := by omega)) | (go_at_call 47; refine (l1In_any _ _ _ _).mono ?_; rintro e w' ⟨rfl, rfl⟩))
  go_ret2
  refine ⟨rfl, ?_⟩
  exact bel
theorem ivGood_any (n1 d1 n2 d2 : Int) (w : World) : Calls Tryz.prog 39 #[.agg #[.int .i64 n1, .int .i64 d1, .int .i64 n2, .int .i64 d2]] w fun e w' => e = .returned (.bool (goodB n1 d1 n2 d2)) ∧ Below w.heap.size w w' := by
 by_cases h1 : plB n1 d1 = true
 ·by_cases h2 : plB n2 d2 = true
  ·have HY := Lib.hid (show goodB n1 d1 n2 d2 = decide (plN n1 d1 ≤ plN n2 d2) by simp [goodB, h1, h2])
   rw [HY.out]
   have tok1 := trivial
   have tok2 := trivial
   go_enter Tryz.func39, Tryz.ntmps39
   go_wp2_with (first | (have _t := tok1; go_at_call 66; refine (ivPlace_any _ _ _).mono ?_; rintro e w1 ⟨rfl, hb1⟩; clear tok1 _t; have hz1 := hb1.size; (try simp only [sA, sB, sC, sD] at hz1); (try (obtain ⟨kq, qg⟩ := cfAt hb1 (w.heap.size); have qc := kq 0; have qd := kq 1; have qe := kq 2; have qf := kq 3; clear kq; simp [go_sem, *] at qc qd qe qf qg)); (try have ql : w.heap.size < w1.heap.size := by omega)) | (have _t := tok2; go_at_call 66; refine (ivPlace_any _ _ _).mono ?_; rintro e w2 ⟨rfl, hb2⟩; clear tok2 _t; have hz2 := hb2.size; (try simp only [sA, sB, sC, sD] at hz2); (try (obtain ⟨kq, qm⟩ := cfAt hb2 (w.heap.size); have qh := kq 0; have qi := kq 1; have qj := kq 2; have qk := kq 3; clear kq; simp [go_sem, *] at qh qi qj qk qm)); (try have qn : w.heap.size < w2.heap.size := by omega); (try clear qc qd qe qf qg); (try clear ql)))
   go_ret
   refine ⟨rfl, ?_⟩
   exact bel
  ·simp only [Bool.not_eq_true] at h2
   have HY := Lib.hid (show goodB n1 d1 n2 d2 = false by simp [goodB, h2])
   rw [HY.out]
   have tok1 := trivial
   have tok2 := trivial
   go_enter Tryz.func39, Tryz.ntmps39
   go_wp2_with (first | (have _t := tok1; go_at_call 66; refine (ivPlace_any _ _ _).mono ?_; rintro e w1 ⟨rfl, hb1⟩; clear tok1 _t; have hz1 := hb1.size; (try simp only [sA, sB, sC, sD] at hz1); (try (obtain ⟨kq, qg⟩ := cfAt hb1 (w.heap.size); have qc := kq 0; have qd := kq 1; have qe := kq 2; have qf := kq 3; clear kq; simp [go_sem, *] at qc qd qe qf qg)); (try have ql : w.heap.size < w1.heap.size := by omega)) | (have _t := tok2; go_at_call 66; refine (ivPlace_any _ _ _).mono ?_; rintro e w2 ⟨rfl, hb2⟩; clear tok2 _t; have hz2 := hb2.size; (try simp only [sA, sB, sC, sD] at hz2); (try (obtain ⟨kq, qm⟩ := cfAt hb2 (w.heap.size); have qh := kq 0; have qi := kq 1; have qj := kq 2; have qk := kq 3; clear kq; simp [go_sem, *] at qh qi qj qk qm)); (try have qn : w.heap.size < w2.heap.size := by omega); (try clear qc qd qe qf qg); (try clear ql)))
   go_ret
   refine ⟨rfl, ?_⟩
   exact bel
 ·simp only [Bool.not_eq_true] at h1
  have HY := Lib.hid (show goodB n1 d1 n2 d2 = false by simp [goodB, h1])
  rw [HY.out]
  have tok1 := trivial
  have tok2 := trivial
  go_enter Tryz.func39, Tryz.ntmps39
  go_wp2_with (first | (have _t := tok1; go_at_call 66; refine (ivPlace_any _ _ _).mono ?_; rintro e w1 ⟨rfl, hb1⟩; clear tok1 _t; have hz1 := hb1.size; (try simp only [sA, sB, sC, sD] at hz1); (try (obtain ⟨kq, qg⟩ := cfAt hb1 (w.heap.size); have qc := kq 0; have qd := kq 1; have qe := kq 2; have qf := kq 3; clear kq; simp [go_sem, *] at qc qd qe qf qg)); (try have ql : w.heap.size < w1.heap.size := by omega)) | (have _t := tok2; go_at_call 66; refine (ivPlace_any _ _ _).mono ?_; rintro e w2 ⟨rfl, hb2⟩; clear tok2 _t; have hz2 := hb2.size; (try simp only [sA, sB, sC, sD] at hz2); (try (obtain ⟨kq, qm⟩ := cfAt hb2 (w.heap.size); have qh := kq 0; have qi := kq 1; have qj := kq 2; have qk := kq 3; clear kq; simp [go_sem, *] at qh qi qj qk qm)); (try have qn : w.heap.size < w2.heap.size := by omega); (try clear qc qd qe qf qg); (try clear ql)))
  go_ret
  refine ⟨rfl, ?_⟩
  exact bel
theorem ivEnds_any (n1 d1 n2 d2 : Int) (w : World) : Calls Tryz.prog 40 #[.agg #[.int .i64 n1, .int .i64 d1, .int .i64 n2, .int .i64 d2]] w fun e w' => e = .returned (.tuple #[.int .i64 (plN n1 d1), .int .i64 (plN n2 d2)]) ∧ Below w.heap.size w w' := by
 have tok1 := trivial
 have tok2 := trivial
 go_enter Tryz.func40, Tryz.ntmps40
 go_wp2_with (first | (have _t := tok1; go_at_call 66; refine (ivPlace_any _ _ _).mono ?_; rintro e w1 ⟨rfl, hb1⟩; clear tok1 _t; have hz1 := hb1.size; (try simp only [sA, sB, sC, sD] at hz1); (try (obtain ⟨kq, qg⟩ := cfAt hb1 (w.heap.size); have qc := kq 0; have qd := kq 1; have qe := kq 2; have qf := kq 3; clear kq; simp [go_sem, *] at qc qd qe qf qg)); (try have ql : w.heap.size < w1.heap.size := by omega)) | (have _t := tok2; go_at_call 66; refine (ivPlace_any _ _ _).mono ?_; rintro e w2 ⟨rfl, hb2⟩; clear tok2 _t; have hz2 := hb2.size; (try simp only [sA, sB, sC, sD] at hz2); (try (obtain ⟨kq, qm⟩ := cfAt hb2 (w.heap.size); have qh := kq 0; have qi := kq 1; have qj := kq 2; have qk := kq 3; clear kq; simp [go_sem, *] at qh qi qj qk qm)); (try have qn : w.heap.size < w2.heap.size := by omega); (try clear qc qd qe qf qg); (try clear ql)))
 go_ret2
 refine ⟨rfl, ?_⟩
 exact bel
theorem ivTwo_any (n1 d1 n2 d2 n3 d3 n4 d4 : Int) (w : World) : Calls Tryz.prog 87 #[.agg #[.int .i64 n1, .int .i64 d1, .int .i64 n2, .int .i64 d2], .agg #[.int .i64 n3, .int .i64 d3, .int .i64 n4, .int .i64 d4]] w fun e w' =>
  e = .returned (.bool (goodB n1 d1 n2 d2 && goodB n3 d3 n4 d4)) ∧ Below w.heap.size w w' := by
 cases h : goodB n1 d1 n2 d2
 ·have tok1 := trivial
  have tok2 := trivial
  go_enter Tryz.func87, Tryz.ntmps87
  go_wp2_with (first | (have _t := tok1; go_at_call 39; refine (ivGood_any _ _ _ _ _).mono ?_; rintro e w1 ⟨rfl, hb1⟩; clear tok1 _t; have hz1 := hb1.size; (try simp only [sA, sB, sC, sD] at hz1); (try (obtain ⟨kq, qk⟩ := cfAt hb1 (w.heap.size); have qc := kq 0; have qd := kq 1; have qe := kq 2; have qf := kq 3; clear kq; simp [go_sem, *] at qc qd qe qf qk)); (try have qw : w.heap.size < w1.heap.size := by omega); (try (obtain ⟨kq, ql⟩ := cfAt hb1 (w.heap.size + 1); have qg := kq 0; have qh := kq 1; have qi := kq 2; have qj := kq 3; clear kq; simp [go_sem, *] at qg qh qi qj ql)); (try have qx : w.heap.size + 1 < w1.heap.size := by omega)) | (have _t := tok2; go_at_call 39; refine (ivGood_any _ _ _ _ _).mono ?_; rintro e w2 ⟨rfl, hb2⟩; clear tok2 _t; have hz2 := hb2.size; (try simp only [sA, sB, sC, sD] at hz2); (try (obtain ⟨kq, qy⟩ := cfAt hb2 (w.heap.size); have qm := kq 0; have qn := kq 1; have qo := kq 2; have qq := kq 3; clear kq; simp [go_sem, *] at qm qn qo qq qy)); (try have xc : w.heap.size < w2.heap.size := by omega); (try (obtain ⟨kq, qz⟩ := cfAt hb2 (w.heap.size + 1); have qr := kq 0; have qt := kq 1; have qu := kq 2; have qv := kq 3; clear kq; simp [go_sem, *] at qr qt qu qv qz)); (try have xd : w.heap.size + 1 < w2.heap.size := by omega); (try clear qc qd qe qf qk); (try clear qw); (try clear qg qh qi qj ql); (try clear qx)))
  go_ret
  refine ⟨rfl, ?_⟩
  exact bel
 ·rw [Bool.true_and]
  have tok1 := trivial
  have tok2 := trivial
  go_enter Tryz.func87, Tryz.ntmps87
  go_wp2_with (first | (have _t := tok1; go_at_call 39; refine (ivGood_any _ _ _ _ _).mono ?_; rintro e w1 ⟨rfl, hb1⟩; clear tok1 _t; have hz1 := hb1.size; (try simp only [sA, sB, sC, sD] at hz1); (try (obtain ⟨kq, qk⟩ := cfAt hb1 (w.heap.size); have qc := kq 0; have qd := kq 1; have qe := kq 2; have qf := kq 3; clear kq; simp [go_sem, *] at qc qd qe qf qk)); (try have qw : w.heap.size < w1.heap.size := by omega); (try (obtain ⟨kq, ql⟩ := cfAt hb1 (w.heap.size + 1); have qg := kq 0; have qh := kq 1; have qi := kq 2; have qj := kq 3; clear kq; simp [go_sem, *] at qg qh qi qj ql)); (try have qx : w.heap.size + 1 < w1.heap.size := by omega)) | (have _t := tok2; go_at_call 39; refine (ivGood_any _ _ _ _ _).mono ?_; rintro e w2 ⟨rfl, hb2⟩; clear tok2 _t; have hz2 := hb2.size; (try simp only [sA, sB, sC, sD] at hz2); (try (obtain ⟨kq, qy⟩ := cfAt hb2 (w.heap.size); have qm := kq 0; have qn := kq 1; have qo := kq 2; have qq := kq 3; clear kq; simp [go_sem, *] at qm qn qo qq qy)); (try have xc : w.heap.size < w2.heap.size := by omega); (try (obtain ⟨kq, qz⟩ := cfAt hb2 (w.heap.size + 1); have qr := kq 0; have qt := kq 1; have qu := kq 2; have qv := kq 3; clear kq; simp [go_sem, *] at qr qt qu qv qz)); (try have xd : w.heap.size + 1 < w2.heap.size := by omega); (try clear qc qd qe qf qk); (try clear qw); (try clear qg qh qi qj ql); (try clear qx)))
  go_ret
  refine ⟨rfl, ?_⟩
  exact bel
theorem frMk_any (a : Int) (w : World) (h : -9223372036854775807 ≤ a ∧ a ≤ 9223372036854775807) :
  Calls Tryz.prog 41 #[.int .i64 a, .int .i64 4096] w fun e w' => e = .returned (.tuple #[.agg #[.int .i64 (mkF a 4096).1, .int .i64 (mkF a 4096).2.1], .bool (mkF a 4096).2.2]) ∧ Below w.heap.size w w' :=
 frMake_any a 4096 w (by omega) (by omega) (by omega) (by omega) (by omega)
theorem ivMake_any (a b : Int) (w : World) (ha : -9223372036854775807 ≤ a ∧ a ≤ 9223372036854775807) (hb : -9223372036854775807 ≤ b ∧ b ≤ 9223372036854775807) :
  Calls Tryz.prog 49 #[.int .i64 a, .int .i64 b] w fun e w' => e = .returned (ivV true a b) ∧ Below w.heap.size w w' := by
 have hmk := make_good a b
 by_cases hv : validB a b = true
 ·have hbd := validB_bd hv
  have e1 := mkF_grid (a := a) (by omega) (by omega)
  have e2 := mkF_grid (a := b) (by omega) (by omega)
  have e3 := (iv_read hv).1
  have F1 := fun W : World => Lib.hid (show Calls Tryz.prog 41 #[.int .i64 a, .int .i64 4096] W fun e w' => e = .returned (.tuple #[.agg #[.int .i64 (mkN a 4096), .int .i64 (mkD a 4096)], .bool true]) ∧ Below W.heap.size W w' by have := frMk_any a W ha; rwa [e1] at this)
  have F2 := fun W : World => Lib.hid (show Calls Tryz.prog 41 #[.int .i64 b, .int .i64 4096] W fun e w' => e = .returned (.tuple #[.agg #[.int .i64 (mkN b 4096), .int .i64 (mkD b 4096)], .bool true]) ∧ Below W.heap.size W w' by have := frMk_any b W hb; rwa [e2] at this)
  rw [ivV_yes hv]
  clear hmk e1 e2 hv
  have tok1 := trivial
  have tok2 := trivial
  have tok3 := trivial
  go_enter Tryz.func49, Tryz.ntmps49
  go_wp2_with (first | (have _t := tok1; go_at_call 41; refine ((F1 _).out).mono ?_; rintro e w1 ⟨rfl, hb1⟩; clear tok1 _t; have hz1 := hb1.size; (try simp only [sA, sB, sC, sD] at hz1); (try (obtain ⟨kq, qi⟩ := cfAt hb1 (w.heap.size); have qc := kq 0; have qd := kq 1; have qe := kq 2; have qf := kq 3; clear kq; simp [go_sem, *] at qc qd qe qf qi)); (try have qo : w.heap.size < w1.heap.size := by omega)) | (have _t := tok2; go_at_call 41; refine ((F2 _).out).mono ?_; rintro e w2 ⟨rfl, hb2⟩; clear tok2 _t; have hz2 := hb2.size; (try simp only [sA, sB, sC, sD] at hz2); (try (obtain ⟨kq, qq⟩ := cfAt hb2 (w.heap.size); have qj := kq 0; have qk := kq 1; have ql := kq 2; have qm := kq 3; clear kq; simp [go_sem, *] at qj qk ql qm qq)); (try have xk : w.heap.size < w2.heap.size := by omega); (try (obtain ⟨kq, qn⟩ := cfAt hb2 (w1.heap.size); have qg := kq 0; have qh := kq 1; clear kq; simp [go_sem, *] at qg qh qn)); (try have xg : w1.heap.size < w2.heap.size := by omega); (try clear qc qd qe qf qi); (try clear qo)) | (have _t := tok3; go_at_call 39; refine (ivGood_any _ _ _ _ _).mono ?_; rintro e w3 ⟨rfl, hb3⟩; clear tok3 _t; have hz3 := hb3.size; (try simp only [sA, sB, sC, sD] at hz3); (try (obtain ⟨kq, xl⟩ := cfAt hb3 (w.heap.size); have xc := kq 0; have xd := kq 1; have xe := kq 2; have xf := kq 3; clear kq; simp [go_sem, *] at xc xd xe xf xl)); (try have xp : w.heap.size < w3.heap.size := by omega); (try (obtain ⟨kq, xh⟩ := cfAt hb3 (w1.heap.size); have qr := kq 0; have qt := kq 1; clear kq; simp [go_sem, *] at qr qt xh)); (try have xm : w1.heap.size < w3.heap.size := by omega); (try (obtain ⟨kq, xi⟩ := cfAt hb3 (w2.heap.size); have qu := kq 0; have qv := kq 1; clear kq; simp [go_sem, *] at qu qv xi)); (try have xn : w2.heap.size < w3.heap.size := by omega); (try (obtain ⟨kq, xj⟩ := cfAt hb3 (w2.heap.size + 1); have qw := kq 0; have qx := kq 1; have qy := kq 2; have qz := kq 3; clear kq; simp [go_sem, *] at qw qx qy qz xj)); (try have xo : w2.heap.size + 1 < w3.heap.size := by omega); (try clear qc qd qe qf qi); (try clear qo); (try clear qj qk ql qm qq); (try clear xk); (try clear qg qh qn); (try clear xg)))
  refine bodyPost_ret (v := _) (by simp [results, Tryz.results49, go_sem, *]) rfl ⟨rfl, ?_⟩
  exact bel
 ·simp only [Bool.not_eq_true] at hv
  rw [ivV_no (by simp [hv])]
  rw [hv] at hmk
  by_cases h1 : (mkF a 4096).2.2 = true
  ·by_cases h2 : (mkF b 4096).2.2 = true
   ·have h3 : goodB (mkF a 4096).1 (mkF a 4096).2.1 (mkF b 4096).1 (mkF b 4096).2.1 = false := by simpa [h1, h2] using hmk
    clear hmk hv
    have tok1 := trivial
    have tok2 := trivial
    have tok3 := trivial
    go_enter Tryz.func49, Tryz.ntmps49
    go_wp2_with (first | (have _t := tok1; go_at_call 41; refine (frMk_any _ _ (by omega)).mono ?_; rintro e w1 ⟨rfl, hb1⟩; clear tok1 _t; have hz1 := hb1.size; (try simp only [sA, sB, sC, sD] at hz1); (try (obtain ⟨kq, qi⟩ := cfAt hb1 (w.heap.size); have qc := kq 0; have qd := kq 1; have qe := kq 2; have qf := kq 3; clear kq; simp [go_sem, *] at qc qd qe qf qi)); (try have qo : w.heap.size < w1.heap.size := by omega)) | (have _t := tok2; go_at_call 41; refine (frMk_any _ _ (by omega)).mono ?_; rintro e w2 ⟨rfl, hb2⟩; clear tok2 _t; have hz2 := hb2.size; (try simp only [sA, sB, sC, sD] at hz2); (try (obtain ⟨kq, qq⟩ := cfAt hb2 (w.heap.size); have qj := kq 0; have qk := kq 1; have ql := kq 2; have qm := kq 3; clear kq; simp [go_sem, *] at qj qk ql qm qq)); (try have xk : w.heap.size < w2.heap.size := by omega); (try (obtain ⟨kq, qn⟩ := cfAt hb2 (w1.heap.size); have qg := kq 0; have qh := kq 1; clear kq; simp [go_sem, *] at qg qh qn)); (try have xg : w1.heap.size < w2.heap.size := by omega); (try clear qc qd qe qf qi); (try clear qo)) | (have _t := tok3; go_at_call 39; refine (ivGood_any _ _ _ _ _).mono ?_; rintro e w3 ⟨rfl, hb3⟩; clear tok3 _t; have hz3 := hb3.size; (try simp only [sA, sB, sC, sD] at hz3); (try (obtain ⟨kq, xl⟩ := cfAt hb3 (w.heap.size); have xc := kq 0; have xd := kq 1; have xe := kq 2; have xf := kq 3; clear kq; simp [go_sem, *] at xc xd xe xf xl)); (try have xp : w.heap.size < w3.heap.size := by omega); (try (obtain ⟨kq, xh⟩ := cfAt hb3 (w1.heap.size); have qr := kq 0; have qt := kq 1; clear kq; simp [go_sem, *] at qr qt xh)); (try have xm : w1.heap.size < w3.heap.size := by omega); (try (obtain ⟨kq, xi⟩ := cfAt hb3 (w2.heap.size); have qu := kq 0; have qv := kq 1; clear kq; simp [go_sem, *] at qu qv xi)); (try have xn : w2.heap.size < w3.heap.size := by omega); (try (obtain ⟨kq, xj⟩ := cfAt hb3 (w2.heap.size + 1); have qw := kq 0; have qx := kq 1; have qy := kq 2; have qz := kq 3; clear kq; simp [go_sem, *] at qw qx qy qz xj)); (try have xo : w2.heap.size + 1 < w3.heap.size := by omega); (try clear qc qd qe qf qi); (try clear qo); (try clear qj qk ql qm qq); (try clear xk); (try clear qg qh qn); (try clear xg)))
    refine bodyPost_ret (v := _) (by simp [results, Tryz.results49, go_sem, *]) rfl ⟨rfl, ?_⟩
    exact bel
   ·simp only [Bool.not_eq_true] at h2
    clear hmk hv
    have tok1 := trivial
    have tok2 := trivial
    have tok3 := trivial
    go_enter Tryz.func49, Tryz.ntmps49
    go_wp2_with (first | (have _t := tok1; go_at_call 41; refine (frMk_any _ _ (by omega)).mono ?_; rintro e w1 ⟨rfl, hb1⟩; clear tok1 _t; have hz1 := hb1.size; (try simp only [sA, sB, sC, sD] at hz1); (try (obtain ⟨kq, qi⟩ := cfAt hb1 (w.heap.size); have qc := kq 0; have qd := kq 1; have qe := kq 2; have qf := kq 3; clear kq; simp [go_sem, *] at qc qd qe qf qi)); (try have qo : w.heap.size < w1.heap.size := by omega)) | (have _t := tok2; go_at_call 41; refine (frMk_any _ _ (by omega)).mono ?_; rintro e w2 ⟨rfl, hb2⟩; clear tok2 _t; have hz2 := hb2.size; (try simp only [sA, sB, sC, sD] at hz2); (try (obtain ⟨kq, qq⟩ := cfAt hb2 (w.heap.size); have qj := kq 0; have qk := kq 1; have ql := kq 2; have qm := kq 3; clear kq; simp [go_sem, *] at qj qk ql qm qq)); (try have xk : w.heap.size < w2.heap.size := by omega); (try (obtain ⟨kq, qn⟩ := cfAt hb2 (w1.heap.size); have qg := kq 0; have qh := kq 1; clear kq; simp [go_sem, *] at qg qh qn)); (try have xg : w1.heap.size < w2.heap.size := by omega); (try clear qc qd qe qf qi); (try clear qo)) | (have _t := tok3; go_at_call 39; refine (ivGood_any _ _ _ _ _).mono ?_; rintro e w3 ⟨rfl, hb3⟩; clear tok3 _t; have hz3 := hb3.size; (try simp only [sA, sB, sC, sD] at hz3); (try (obtain ⟨kq, xl⟩ := cfAt hb3 (w.heap.size); have xc := kq 0; have xd := kq 1; have xe := kq 2; have xf := kq 3; clear kq; simp [go_sem, *] at xc xd xe xf xl)); (try have xp : w.heap.size < w3.heap.size := by omega); (try (obtain ⟨kq, xh⟩ := cfAt hb3 (w1.heap.size); have qr := kq 0; have qt := kq 1; clear kq; simp [go_sem, *] at qr qt xh)); (try have xm : w1.heap.size < w3.heap.size := by omega); (try (obtain ⟨kq, xi⟩ := cfAt hb3 (w2.heap.size); have qu := kq 0; have qv := kq 1; clear kq; simp [go_sem, *] at qu qv xi)); (try have xn : w2.heap.size < w3.heap.size := by omega); (try (obtain ⟨kq, xj⟩ := cfAt hb3 (w2.heap.size + 1); have qw := kq 0; have qx := kq 1; have qy := kq 2; have qz := kq 3; clear kq; simp [go_sem, *] at qw qx qy qz xj)); (try have xo : w2.heap.size + 1 < w3.heap.size := by omega); (try clear qc qd qe qf qi); (try clear qo); (try clear qj qk ql qm qq); (try clear xk); (try clear qg qh qn); (try clear xg)))
    refine bodyPost_ret (v := _) (by simp [results, Tryz.results49, go_sem, *]) rfl ⟨rfl, ?_⟩
    exact bel
  ·simp only [Bool.not_eq_true] at h1
   clear hmk hv
   have tok1 := trivial
   have tok2 := trivial
   have tok3 := trivial
   go_enter Tryz.func49, Tryz.ntmps49
   go_wp2_with (first | (have _t := tok1; go_at_call 41; refine (frMk_any _ _ (by omega)).mono ?_; rintro e w1 ⟨rfl, hb1⟩; clear tok1 _t; have hz1 := hb1.size; (try simp only [sA, sB, sC, sD] at hz1); (try (obtain ⟨kq, qi⟩ := cfAt hb1 (w.heap.size); have qc := kq 0; have qd := kq 1; have qe := kq 2; have qf := kq 3; clear kq; simp [go_sem, *] at qc qd qe qf qi)); (try have qo : w.heap.size < w1.heap.size := by omega)) | (have _t := tok2; go_at_call 41; refine (frMk_any _ _ (by omega)).mono ?_; rintro e w2 ⟨rfl, hb2⟩; clear tok2 _t; have hz2 := hb2.size; (try simp only [sA, sB, sC, sD] at hz2); (try (obtain ⟨kq, qq⟩ := cfAt hb2 (w.heap.size); have qj := kq 0; have qk := kq 1; have ql := kq 2; have qm := kq 3; clear kq; simp [go_sem, *] at qj qk ql qm qq)); (try have xk : w.heap.size < w2.heap.size := by omega); (try (obtain ⟨kq, qn⟩ := cfAt hb2 (w1.heap.size); have qg := kq 0; have qh := kq 1; clear kq; simp [go_sem, *] at qg qh qn)); (try have xg : w1.heap.size < w2.heap.size := by omega); (try clear qc qd qe qf qi); (try clear qo)) | (have _t := tok3; go_at_call 39; refine (ivGood_any _ _ _ _ _).mono ?_; rintro e w3 ⟨rfl, hb3⟩; clear tok3 _t; have hz3 := hb3.size; (try simp only [sA, sB, sC, sD] at hz3); (try (obtain ⟨kq, xl⟩ := cfAt hb3 (w.heap.size); have xc := kq 0; have xd := kq 1; have xe := kq 2; have xf := kq 3; clear kq; simp [go_sem, *] at xc xd xe xf xl)); (try have xp : w.heap.size < w3.heap.size := by omega); (try (obtain ⟨kq, xh⟩ := cfAt hb3 (w1.heap.size); have qr := kq 0; have qt := kq 1; clear kq; simp [go_sem, *] at qr qt xh)); (try have xm : w1.heap.size < w3.heap.size := by omega); (try (obtain ⟨kq, xi⟩ := cfAt hb3 (w2.heap.size); have qu := kq 0; have qv := kq 1; clear kq; simp [go_sem, *] at qu qv xi)); (try have xn : w2.heap.size < w3.heap.size := by omega); (try (obtain ⟨kq, xj⟩ := cfAt hb3 (w2.heap.size + 1); have qw := kq 0; have qx := kq 1; have qy := kq 2; have qz := kq 3; clear kq; simp [go_sem, *] at qw qx qy qz xj)); (try have xo : w2.heap.size + 1 < w3.heap.size := by omega); (try clear qc qd qe qf qi); (try clear qo); (try clear qj qk ql qm qq); (try clear xk); (try clear qg qh qn); (try clear xg)))
   refine bodyPost_ret (v := _) (by simp [results, Tryz.results49, go_sem, *]) rfl ⟨rfl, ?_⟩
   exact bel
theorem ivMake_lit (a b : Int) (w : World) (ha : -9223372036854775807 ≤ a ∧ a ≤ 9223372036854775807) (hb : -9223372036854775807 ≤ b ∧ b ≤ 9223372036854775807) :
  Calls Tryz.prog 49 #[.int .i64 a, .int .i64 b] w fun e w' =>
  e = .returned (.tuple #[.agg #[.int .i64 (ivN1 true a b), .int .i64 (ivD1 true a b), .int .i64 (ivN2 true a b), .int .i64 (ivD2 true a b)], .bool (true && validB a b)]) ∧ Below w.heap.size w w' :=
 ivMake_any a b w ha hb
theorem l1Least_min (a b : Int) (w : World) : Calls Tryz.prog 88 #[.int .i64 a, .int .i64 b] w fun e w' => e = .returned (.int .i64 (min a b)) ∧ w = w' := by
 have := l1Least_any a b w; rwa [least_eq] at this
theorem l1Most_max (a b : Int) (w : World) : Calls Tryz.prog 69 #[.int .i64 a, .int .i64 b] w fun e w' => e = .returned (.int .i64 (max a b)) ∧ w = w' := by
 have := l1Most_any a b w; rwa [most_eq] at this
theorem ivUp_any (a b : Int) (w : World) (hb : 0 < b) (h1 : -9223372036854775000 ≤ a) (h2 : a ≤ 9223372036854775000) : Calls Tryz.prog 99 #[.int .i64 a, .int .i64 b] w fun e w' => e = .returned (.int .i64 (-(down (-a) b))) ∧ w = w' := by
 have q := down_in (a := -a) (b := b) (M := 9223372036854775000) hb (by omega)
 go_enter Tryz.func99, Tryz.ntmps99
 go_wp2_with (first | (go_at_call 98; refine (frDown_any _ _ _ (by omega) (by omega) (by omega)).mono ?_; rintro e w' ⟨rfl, rfl⟩))
 go_ret
 exact ⟨rfl, rfl⟩
theorem ivAdd_any {n1 d1 n2 d2 n3 d3 n4 d4 : Int} (w : World) (hg1 : goodB n1 d1 n2 d2 = true) (hg2 : goodB n3 d3 n4 d4 = true) : Calls Tryz.prog 26 #[.agg #[.int .i64 n1, .int .i64 d1, .int .i64 n2, .int .i64 d2], .agg #[.int .i64 n3, .int .i64 d3, .int .i64 n4, .int .i64 d4]] w fun e w' =>
  e = .returned (opV true ((plN n1 d1) + (plN n3 d3)) ((plN n2 d2) + (plN n4 d4))) ∧ Below w.heap.size w w' := by
 have g1 := goodB_bd hg1
 have g2 := goodB_bd hg2
 clear hg1 hg2
 rw [opV, if_pos rfl, ivV]
 have tok1 := trivial
 have tok2 := trivial
 have tok3 := trivial
 go_enter Tryz.func26, Tryz.ntmps26
 go_wp2_with (first | (have _t := tok1; go_at_call 40; refine (ivEnds_any _ _ _ _ _).mono ?_; rintro e w1 ⟨rfl, hb1⟩; clear tok1 _t; have hz1 := hb1.size; (try simp only [sA, sB, sC, sD] at hz1); (try (obtain ⟨kq, qo⟩ := cfAt hb1 (w.heap.size); have qc := kq 0; have qd := kq 1; have qe := kq 2; have qf := kq 3; clear kq; simp [go_sem, *] at qc qd qe qf qo)); (try have xh : w.heap.size < w1.heap.size := by omega); (try (obtain ⟨kq, qq⟩ := cfAt hb1 (w.heap.size + 1); have qg := kq 0; have qh := kq 1; have qi := kq 2; have qj := kq 3; clear kq; simp [go_sem, *] at qg qh qi qj qq)); (try have xi : w.heap.size + 1 < w1.heap.size := by omega); (try (obtain ⟨kq, qr⟩ := cfAt hb1 (w.heap.size + 1 + 1); have qk := kq 0; have ql := kq 1; have qm := kq 2; have qn := kq 3; clear kq; simp [go_sem, *] at qk ql qm qn qr)); (try have xj : w.heap.size + 1 + 1 < w1.heap.size := by omega)) | (have _t := tok2; go_at_call 40; refine (ivEnds_any _ _ _ _ _).mono ?_; rintro e w2 ⟨rfl, hb2⟩; clear tok2 _t; have hz2 := hb2.size; (try simp only [sA, sB, sC, sD] at hz2); (try (obtain ⟨kq, xk⟩ := cfAt hb2 (w.heap.size); have qt := kq 0; have qu := kq 1; have qv := kq 2; have qw := kq 3; clear kq; simp [go_sem, *] at qt qu qv qw xk)); (try have zc : w.heap.size < w2.heap.size := by omega); (try (obtain ⟨kq, xl⟩ := cfAt hb2 (w.heap.size + 1); have qx := kq 0; have qy := kq 1; have qz := kq 2; have xc := kq 3; clear kq; simp [go_sem, *] at qx qy qz xc xl)); (try have zd : w.heap.size + 1 < w2.heap.size := by omega); (try (obtain ⟨kq, xm⟩ := cfAt hb2 (w.heap.size + 1 + 1); have xd := kq 0; have xe := kq 1; have xf := kq 2; have xg := kq 3; clear kq; simp [go_sem, *] at xd xe xf xg xm)); (try have ze : w.heap.size + 1 + 1 < w2.heap.size := by omega); (try clear qc qd qe qf qo); (try clear xh); (try clear qg qh qi qj qq); (try clear xi); (try clear qk ql qm qn qr); (try clear xj)) | (have _t := tok3; go_at_call 49; refine (ivMake_lit _ _ _ (by omega) (by omega)).mono ?_; rintro e w3 ⟨rfl, hb3⟩; clear tok3 _t; have hz3 := hb3.size; (try simp only [sA, sB, sC, sD] at hz3); (try (obtain ⟨kq, zf⟩ := cfAt hb3 (w.heap.size); have xn := kq 0; have xo := kq 1; have xp := kq 2; have xq := kq 3; clear kq; simp [go_sem, *] at xn xo xp xq zf)); (try have zi : w.heap.size < w3.heap.size := by omega); (try (obtain ⟨kq, zg⟩ := cfAt hb3 (w.heap.size + 1); have xr := kq 0; have xt := kq 1; have xu := kq 2; have xv := kq 3; clear kq; simp [go_sem, *] at xr xt xu xv zg)); (try have zj : w.heap.size + 1 < w3.heap.size := by omega); (try (obtain ⟨kq, zh⟩ := cfAt hb3 (w.heap.size + 1 + 1); have xw := kq 0; have xy := kq 1; have za := kq 2; have zb := kq 3; clear kq; simp [go_sem, *] at xw xy za zb zh)); (try have zk : w.heap.size + 1 + 1 < w3.heap.size := by omega); (try clear qc qd qe qf qo); (try clear xh); (try clear qg qh qi qj qq); (try clear xi); (try clear qk ql qm qn qr); (try clear xj); (try clear qt qu qv qw xk); (try clear zc); (try clear qx qy qz xc xl); (try clear zd); (try clear xd xe xf xg xm); (try clear ze)))
 refine bodyPost_ret (v := _) (by simp [results, Tryz.results26, go_sem, *]) rfl ⟨rfl, ?_⟩
 exact bel
theorem ivSub_any {n1 d1 n2 d2 n3 d3 n4 d4 : Int} (w : World) (hg1 : goodB n1 d1 n2 d2 = true) (hg2 : goodB n3 d3 n4 d4 = true) : Calls Tryz.prog 50 #[.agg #[.int .i64 n1, .int .i64 d1, .int .i64 n2, .int .i64 d2], .agg #[.int .i64 n3, .int .i64 d3, .int .i64 n4, .int .i64 d4]] w fun e w' =>
  e = .returned (opV true ((plN n1 d1) - (plN n4 d4)) ((plN n2 d2) - (plN n3 d3))) ∧ Below w.heap.size w w' := by
 have g1 := goodB_bd hg1
 have g2 := goodB_bd hg2
 clear hg1 hg2
 rw [opV, if_pos rfl, ivV]
 have tok1 := trivial
 have tok2 := trivial
 have tok3 := trivial
 go_enter Tryz.func50, Tryz.ntmps50
 go_wp2_with (first | (have _t := tok1; go_at_call 40; refine (ivEnds_any _ _ _ _ _).mono ?_; rintro e w1 ⟨rfl, hb1⟩; clear tok1 _t; have hz1 := hb1.size; (try simp only [sA, sB, sC, sD] at hz1); (try (obtain ⟨kq, qo⟩ := cfAt hb1 (w.heap.size); have qc := kq 0; have qd := kq 1; have qe := kq 2; have qf := kq 3; clear kq; simp [go_sem, *] at qc qd qe qf qo)); (try have xh : w.heap.size < w1.heap.size := by omega); (try (obtain ⟨kq, qq⟩ := cfAt hb1 (w.heap.size + 1); have qg := kq 0; have qh := kq 1; have qi := kq 2; have qj := kq 3; clear kq; simp [go_sem, *] at qg qh qi qj qq)); (try have xi : w.heap.size + 1 < w1.heap.size := by omega); (try (obtain ⟨kq, qr⟩ := cfAt hb1 (w.heap.size + 1 + 1); have qk := kq 0; have ql := kq 1; have qm := kq 2; have qn := kq 3; clear kq; simp [go_sem, *] at qk ql qm qn qr)); (try have xj : w.heap.size + 1 + 1 < w1.heap.size := by omega)) | (have _t := tok2; go_at_call 40; refine (ivEnds_any _ _ _ _ _).mono ?_; rintro e w2 ⟨rfl, hb2⟩; clear tok2 _t; have hz2 := hb2.size; (try simp only [sA, sB, sC, sD] at hz2); (try (obtain ⟨kq, xk⟩ := cfAt hb2 (w.heap.size); have qt := kq 0; have qu := kq 1; have qv := kq 2; have qw := kq 3; clear kq; simp [go_sem, *] at qt qu qv qw xk)); (try have zc : w.heap.size < w2.heap.size := by omega); (try (obtain ⟨kq, xl⟩ := cfAt hb2 (w.heap.size + 1); have qx := kq 0; have qy := kq 1; have qz := kq 2; have xc := kq 3; clear kq; simp [go_sem, *] at qx qy qz xc xl)); (try have zd : w.heap.size + 1 < w2.heap.size := by omega); (try (obtain ⟨kq, xm⟩ := cfAt hb2 (w.heap.size + 1 + 1); have xd := kq 0; have xe := kq 1; have xf := kq 2; have xg := kq 3; clear kq; simp [go_sem, *] at xd xe xf xg xm)); (try have ze : w.heap.size + 1 + 1 < w2.heap.size := by omega); (try clear qc qd qe qf qo); (try clear xh); (try clear qg qh qi qj qq); (try clear xi); (try clear qk ql qm qn qr); (try clear xj)) | (have _t := tok3; go_at_call 49; refine (ivMake_lit _ _ _ (by omega) (by omega)).mono ?_; rintro e w3 ⟨rfl, hb3⟩; clear tok3 _t; have hz3 := hb3.size; (try simp only [sA, sB, sC, sD] at hz3); (try (obtain ⟨kq, zf⟩ := cfAt hb3 (w.heap.size); have xn := kq 0; have xo := kq 1; have xp := kq 2; have xq := kq 3; clear kq; simp [go_sem, *] at xn xo xp xq zf)); (try have zi : w.heap.size < w3.heap.size := by omega); (try (obtain ⟨kq, zg⟩ := cfAt hb3 (w.heap.size + 1); have xr := kq 0; have xt := kq 1; have xu := kq 2; have xv := kq 3; clear kq; simp [go_sem, *] at xr xt xu xv zg)); (try have zj : w.heap.size + 1 < w3.heap.size := by omega); (try (obtain ⟨kq, zh⟩ := cfAt hb3 (w.heap.size + 1 + 1); have xw := kq 0; have xy := kq 1; have za := kq 2; have zb := kq 3; clear kq; simp [go_sem, *] at xw xy za zb zh)); (try have zk : w.heap.size + 1 + 1 < w3.heap.size := by omega); (try clear qc qd qe qf qo); (try clear xh); (try clear qg qh qi qj qq); (try clear xi); (try clear qk ql qm qn qr); (try clear xj); (try clear qt qu qv qw xk); (try clear zc); (try clear qx qy qz xc xl); (try clear zd); (try clear xd xe xf xg xm); (try clear ze)))
 refine bodyPost_ret (v := _) (by simp [results, Tryz.results50, go_sem, *]) rfl ⟨rfl, ?_⟩
 exact bel
end
section
open Go.RowKit
set_option linter.unusedVariables false
set_option maxHeartbeats 4000000
set_option linter.unusedSimpArgs false
theorem sCommonPart_any (n1 d1 n2 d2 n3 d3 n4 d4 : Int) (w : World) : Calls Tryz.prog 71 #[.agg #[.int .i64 n1, .int .i64 d1, .int .i64 n2, .int .i64 d2], .agg #[.int .i64 n3, .int .i64 d3, .int .i64 n4, .int .i64 d4]] w fun e w' =>
  e = .returned (opV (goodB n1 d1 n2 d2 && goodB n3 d3 n4 d4) (max (plN n1 d1) (plN n3 d3)) (min (plN n2 d2) (plN n4 d4))) ∧ Below w.heap.size w w' := by
 by_cases hg : (goodB n1 d1 n2 d2 && goodB n3 d3 n4 d4) = true
 ·obtain ⟨hg1, hg2⟩ : goodB n1 d1 n2 d2 = true ∧ goodB n3 d3 n4 d4 = true := by simpa using hg
  have g1 := goodB_bd hg1
  have g2 := goodB_bd hg2
  rw [opV, if_pos hg, ivV]
  clear hg
  have tok1 := trivial
  have tok2 := trivial
  have tok3 := trivial
  have tok4 := trivial
  go_enter Tryz.func71, Tryz.ntmps71
  go_wp2_with (first | (have _t := tok1; go_at_call 87; refine (ivTwo_any _ _ _ _ _ _ _ _ _).mono ?_; rintro e w1 ⟨rfl, hb1⟩; clear tok1 _t; have hz1 := hb1.size; (try simp only [sA, sB, sC, sD] at hz1); (try (obtain ⟨kq, xe⟩ := cfAt hb1 (w.heap.size); have qc := kq 0; have qd := kq 1; have qe := kq 2; have qf := kq 3; clear kq; simp [go_sem, *] at qc qd qe qf xe)); (try have xh : w.heap.size < w1.heap.size := by omega); (try (obtain ⟨kq, xf⟩ := cfAt hb1 (w.heap.size + 1); have qg := kq 0; have qh := kq 1; have qi := kq 2; have qj := kq 3; clear kq; simp [go_sem, *] at qg qh qi qj xf)); (try have xi : w.heap.size + 1 < w1.heap.size := by omega); (try (obtain ⟨kq, xg⟩ := cfAt hb1 (w.heap.size + 1 + 1); have qk := kq 0; have ql := kq 1; have qm := kq 2; have qn := kq 3; clear kq; simp [go_sem, *] at qk ql qm qn xg)); (try have xj : w.heap.size + 1 + 1 < w1.heap.size := by omega)) | (have _t := tok2; go_at_call 40; refine (ivEnds_any _ _ _ _ _).mono ?_; rintro e w2 ⟨rfl, hb2⟩; clear tok2 _t; have hz2 := hb2.size; (try simp only [sA, sB, sC, sD] at hz2); (try (obtain ⟨kq, xk⟩ := cfAt hb2 (w.heap.size); have qo := kq 0; have qq := kq 1; have qr := kq 2; have qt := kq 3; clear kq; simp [go_sem, *] at qo qq qr qt xk)); (try have zc : w.heap.size < w2.heap.size := by omega); (try (obtain ⟨kq, xl⟩ := cfAt hb2 (w.heap.size + 1); have qu := kq 0; have qv := kq 1; have qw := kq 2; have qx := kq 3; clear kq; simp [go_sem, *] at qu qv qw qx xl)); (try have zd : w.heap.size + 1 < w2.heap.size := by omega); (try (obtain ⟨kq, xm⟩ := cfAt hb2 (w.heap.size + 1 + 1); have qy := kq 0; have qz := kq 1; have xc := kq 2; have xd := kq 3; clear kq; simp [go_sem, *] at qy qz xc xd xm)); (try have ze : w.heap.size + 1 + 1 < w2.heap.size := by omega); (try clear qc qd qe qf xe); (try clear xh); (try clear qg qh qi qj xf); (try clear xi); (try clear qk ql qm qn xg); (try clear xj)) | (have _t := tok3; go_at_call 40; refine (ivEnds_any _ _ _ _ _).mono ?_; rintro e w3 ⟨rfl, hb3⟩; clear tok3 _t; have hz3 := hb3.size; (try simp only [sA, sB, sC, sD] at hz3); (try (obtain ⟨kq, zf⟩ := cfAt hb3 (w.heap.size); have xn := kq 0; have xo := kq 1; have xp := kq 2; have xq := kq 3; clear kq; simp [go_sem, *] at xn xo xp xq zf)); (try have zw : w.heap.size < w3.heap.size := by omega); (try (obtain ⟨kq, zg⟩ := cfAt hb3 (w.heap.size + 1); have xr := kq 0; have xt := kq 1; have xu := kq 2; have xv := kq 3; clear kq; simp [go_sem, *] at xr xt xu xv zg)); (try have zx : w.heap.size + 1 < w3.heap.size := by omega); (try (obtain ⟨kq, zh⟩ := cfAt hb3 (w.heap.size + 1 + 1); have xw := kq 0; have xy := kq 1; have za := kq 2; have zb := kq 3; clear kq; simp [go_sem, *] at xw xy za zb zh)); (try have zy : w.heap.size + 1 + 1 < w3.heap.size := by omega); (try clear qc qd qe qf xe); (try clear xh); (try clear qg qh qi qj xf); (try clear xi); (try clear qk ql qm qn xg); (try clear xj); (try clear qo qq qr qt xk); (try clear zc); (try clear qu qv qw qx xl); (try clear zd); (try clear qy qz xc xd xm); (try clear ze)) | (go_at_call 69; refine (l1Most_max _ _ _).mono ?_; rintro e w' ⟨rfl, rfl⟩) | (go_at_call 88; refine (l1Least_min _ _ _).mono ?_; rintro e w' ⟨rfl, rfl⟩) | (have _t := tok4; go_at_call 49; refine (ivMake_lit _ _ _ (by omega) (by omega)).mono ?_; rintro e w4 ⟨rfl, hb4⟩; clear tok4 _t; have hz4 := hb4.size; (try simp only [sA, sB, sC, sD] at hz4); (try (obtain ⟨kq, ja⟩ := cfAt hb4 (w.heap.size); have zi := kq 0; have zj := kq 1; have zk := kq 2; have zm := kq 3; clear kq; simp [go_sem, *] at zi zj zk zm ja)); (try have jd : w.heap.size < w4.heap.size := by omega); (try (obtain ⟨kq, jb⟩ := cfAt hb4 (w.heap.size + 1); have zn := kq 0; have zo := kq 1; have zp := kq 2; have zq := kq 3; clear kq; simp [go_sem, *] at zn zo zp zq jb)); (try have je : w.heap.size + 1 < w4.heap.size := by omega); (try (obtain ⟨kq, jc⟩ := cfAt hb4 (w.heap.size + 1 + 1); have zr := kq 0; have zt := kq 1; have zu := kq 2; have zv := kq 3; clear kq; simp [go_sem, *] at zr zt zu zv jc)); (try have jf : w.heap.size + 1 + 1 < w4.heap.size := by omega); (try clear qc qd qe qf xe); (try clear xh); (try clear qg qh qi qj xf); (try clear xi); (try clear qk ql qm qn xg); (try clear xj); (try clear qo qq qr qt xk); (try clear zc); (try clear qu qv qw qx xl); (try clear zd); (try clear qy qz xc xd xm); (try clear ze); (try clear xn xo xp xq zf); (try clear zw); (try clear xr xt xu xv zg); (try clear zx); (try clear xw xy za zb zh); (try clear zy)))
  refine bodyPost_ret (v := _) (by simp [results, Tryz.results71, go_sem, *]) rfl ⟨rfl, ?_⟩
  exact bel
 ·simp only [Bool.not_eq_true] at hg
  rw [opV, if_neg (by simp [hg])]
  have TS := fun W : World => Lib.hid (ivTwo_any n1 d1 n2 d2 n3 d3 n4 d4 W)
  have tok1 := trivial
  have tok2 := trivial
  have tok3 := trivial
  have tok4 := trivial
  go_enter Tryz.func71, Tryz.ntmps71
  go_wp2_with (first | (have _t := tok1; go_at_call 87; refine (ivTwo_any _ _ _ _ _ _ _ _ _).mono ?_; rintro e w1 ⟨rfl, hb1⟩; clear tok1 _t; have hz1 := hb1.size; (try simp only [sA, sB, sC, sD] at hz1); (try (obtain ⟨kq, xe⟩ := cfAt hb1 (w.heap.size); have qc := kq 0; have qd := kq 1; have qe := kq 2; have qf := kq 3; clear kq; simp [go_sem, *] at qc qd qe qf xe)); (try have xh : w.heap.size < w1.heap.size := by omega); (try (obtain ⟨kq, xf⟩ := cfAt hb1 (w.heap.size + 1); have qg := kq 0; have qh := kq 1; have qi := kq 2; have qj := kq 3; clear kq; simp [go_sem, *] at qg qh qi qj xf)); (try have xi : w.heap.size + 1 < w1.heap.size := by omega); (try (obtain ⟨kq, xg⟩ := cfAt hb1 (w.heap.size + 1 + 1); have qk := kq 0; have ql := kq 1; have qm := kq 2; have qn := kq 3; clear kq; simp [go_sem, *] at qk ql qm qn xg)); (try have xj : w.heap.size + 1 + 1 < w1.heap.size := by omega)) | (have _t := tok2; go_at_call 40; refine (ivEnds_any _ _ _ _ _).mono ?_; rintro e w2 ⟨rfl, hb2⟩; clear tok2 _t; have hz2 := hb2.size; (try simp only [sA, sB, sC, sD] at hz2); (try (obtain ⟨kq, xk⟩ := cfAt hb2 (w.heap.size); have qo := kq 0; have qq := kq 1; have qr := kq 2; have qt := kq 3; clear kq; simp [go_sem, *] at qo qq qr qt xk)); (try have zc : w.heap.size < w2.heap.size := by omega); (try (obtain ⟨kq, xl⟩ := cfAt hb2 (w.heap.size + 1); have qu := kq 0; have qv := kq 1; have qw := kq 2; have qx := kq 3; clear kq; simp [go_sem, *] at qu qv qw qx xl)); (try have zd : w.heap.size + 1 < w2.heap.size := by omega); (try (obtain ⟨kq, xm⟩ := cfAt hb2 (w.heap.size + 1 + 1); have qy := kq 0; have qz := kq 1; have xc := kq 2; have xd := kq 3; clear kq; simp [go_sem, *] at qy qz xc xd xm)); (try have ze : w.heap.size + 1 + 1 < w2.heap.size := by omega); (try clear qc qd qe qf xe); (try clear xh); (try clear qg qh qi qj xf); (try clear xi); (try clear qk ql qm qn xg); (try clear xj)) | (have _t := tok3; go_at_call 40; refine (ivEnds_any _ _ _ _ _).mono ?_; rintro e w3 ⟨rfl, hb3⟩; clear tok3 _t; have hz3 := hb3.size; (try simp only [sA, sB, sC, sD] at hz3); (try (obtain ⟨kq, zf⟩ := cfAt hb3 (w.heap.size); have xn := kq 0; have xo := kq 1; have xp := kq 2; have xq := kq 3; clear kq; simp [go_sem, *] at xn xo xp xq zf)); (try have zw : w.heap.size < w3.heap.size := by omega); (try (obtain ⟨kq, zg⟩ := cfAt hb3 (w.heap.size + 1); have xr := kq 0; have xt := kq 1; have xu := kq 2; have xv := kq 3; clear kq; simp [go_sem, *] at xr xt xu xv zg)); (try have zx : w.heap.size + 1 < w3.heap.size := by omega); (try (obtain ⟨kq, zh⟩ := cfAt hb3 (w.heap.size + 1 + 1); have xw := kq 0; have xy := kq 1; have za := kq 2; have zb := kq 3; clear kq; simp [go_sem, *] at xw xy za zb zh)); (try have zy : w.heap.size + 1 + 1 < w3.heap.size := by omega); (try clear qc qd qe qf xe); (try clear xh); (try clear qg qh qi qj xf); (try clear xi); (try clear qk ql qm qn xg); (try clear xj); (try clear qo qq qr qt xk); (try clear zc); (try clear qu qv qw qx xl); (try clear zd); (try clear qy qz xc xd xm); (try clear ze)) | (go_at_call 69; refine (l1Most_max _ _ _).mono ?_; rintro e w' ⟨rfl, rfl⟩) | (go_at_call 88; refine (l1Least_min _ _ _).mono ?_; rintro e w' ⟨rfl, rfl⟩) | (have _t := tok4; go_at_call 49; refine (ivMake_lit _ _ _ (by omega) (by omega)).mono ?_; rintro e w4 ⟨rfl, hb4⟩; clear tok4 _t; have hz4 := hb4.size; (try simp only [sA, sB, sC, sD] at hz4); (try (obtain ⟨kq, ja⟩ := cfAt hb4 (w.heap.size); have zi := kq 0; have zj := kq 1; have zk := kq 2; have zm := kq 3; clear kq; simp [go_sem, *] at zi zj zk zm ja)); (try have jd : w.heap.size < w4.heap.size := by omega); (try (obtain ⟨kq, jb⟩ := cfAt hb4 (w.heap.size + 1); have zn := kq 0; have zo := kq 1; have zp := kq 2; have zq := kq 3; clear kq; simp [go_sem, *] at zn zo zp zq jb)); (try have je : w.heap.size + 1 < w4.heap.size := by omega); (try (obtain ⟨kq, jc⟩ := cfAt hb4 (w.heap.size + 1 + 1); have zr := kq 0; have zt := kq 1; have zu := kq 2; have zv := kq 3; clear kq; simp [go_sem, *] at zr zt zu zv jc)); (try have jf : w.heap.size + 1 + 1 < w4.heap.size := by omega); (try clear qc qd qe qf xe); (try clear xh); (try clear qg qh qi qj xf); (try clear xi); (try clear qk ql qm qn xg); (try clear xj); (try clear qo qq qr qt xk); (try clear zc); (try clear qu qv qw qx xl); (try clear zd); (try clear qy qz xc xd xm); (try clear ze); (try clear xn xo xp xq zf); (try clear zw); (try clear xr xt xu xv zg); (try clear zx); (try clear xw xy za zb zh); (try clear zy)))
  refine bodyPost_ret (v := _) (by simp [results, Tryz.results71, go_sem, *]) rfl ⟨rfl, ?_⟩
  exact bel
end
end Go.Proofs.YtnkmgpmehkholaaGreat
