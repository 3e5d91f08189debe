/- Lemmas and contracts of functions. No condition. -/
import Derived.Test.YtnemnkbcbokafaaGreatPk1
import Derived.Test.YtnemnkbcbokafaaGreatPk22
import Derived.Test.YtnemnkbcbokafaaGreatProg
namespace Go.Proofs.YtnemnkbcbokafaaGreat
open Go.RowKit
set_option linter.unusedVariables false
set_option maxHeartbeats 8000000
set_option maxRecDepth 20000
set_option linter.unusedSimpArgs false
def twP (a b nx dx ny dy : Int) : Bool × Bool := if (tcB a b && (frB nx dx && frB ny dy)) = true then onS a b nx dx ny dy else (false, false)
theorem twP_cases (a b nx dx ny dy : Int) : (tcB a b = false ∧ twP a b nx dx ny dy = (false, false)) ∨ (tcB a b = true ∧ ((frB nx dx = false ∧ twP a b nx dx ny dy = (false, false)) ∨ (frB nx dx = true ∧
  ((frB ny dy = false ∧ twP a b nx dx ny dy = (false, false)) ∨ (frB ny dy = true ∧ twP a b nx dx ny dy = onS a b nx dx ny dy))))) := by
 unfold twP
 cases tcB a b <;> cases frB nx dx <;> cases frB ny dy <;> simp
theorem sIsTwoPoint_any (a b nx dx ny dy : Int) (w : World) : Calls Tryz.prog 11 #[.agg #[.int .i64 a, .int .i64 b], .agg #[.int .i64 nx, .int .i64 dx], .agg #[.int .i64 ny, .int .i64 dy]] w fun e w' =>
   e = .returned (.tuple #[.bool (twP a b nx dx ny dy).1, .bool (twP a b nx dx ny dy).2]) ∧ Below w.heap.size w w' := by
 have T1 := fun W : World => Lib.hid (tcGood_any a b W)
 have T2 := fun W : World => Lib.hid (frTwo_any nx dx ny dy W)
 rcases twP_cases a b nx dx ny dy with ⟨h1, e⟩ | ⟨h1, ⟨h2, e⟩ | ⟨h2, ⟨h3, e⟩ | ⟨h3, e⟩⟩⟩
 ·rw [h1] at T1
  rw [e]
  have T3 := T1
  clear h1 e
  have tok1 := trivial
  have tok2 := trivial
  have tok3 := trivial
  go_enter Tryz.func11, Tryz.ntmps11
  go_wp2_with (first | (have _t := tok1; go_at_call 31; (with_reducible refine ((T1 _).out).mono ?_); rintro e w1 ⟨rfl, hb1⟩; clear tok1 _t; have hz1 := hb1.size; (try simp only [sA, sB, sC, sD] at hz1); (try (obtain ⟨qa, qb, qi⟩ := cf2 hb1 (w.heap.size); simp [go_sem, *] at qa qb qi)); (try have qu : w.heap.size < w1.heap.size := by omega); (try (obtain ⟨qc, qf, qj⟩ := cf2 hb1 (w.heap.size + 1); simp [go_sem, *] at qc qf qj)); (try have qw : w.heap.size + 1 < w1.heap.size := by omega); (try (obtain ⟨qg, qh, qk⟩ := cf2 hb1 (w.heap.size + 1 + 1); simp [go_sem, *] at qg qh qk)); (try have qz : w.heap.size + 1 + 1 < w1.heap.size := by omega)) | (have _t := tok2; go_at_call 32; (with_reducible refine ((T2 _).out).mono ?_); rintro e w2 ⟨rfl, hb2⟩; clear tok2 _t; have hz2 := hb2.size; (try simp only [sA, sB, sC, sD] at hz2); (try (obtain ⟨ql, qm, xa⟩ := cf2 hb2 (w.heap.size); simp [go_sem, *] at ql qm xa)); (try have xk : w.heap.size < w2.heap.size := by omega); (try (obtain ⟨qp, qq, xb⟩ := cf2 hb2 (w.heap.size + 1); simp [go_sem, *] at qp qq xb)); (try have xl : w.heap.size + 1 < w2.heap.size := by omega); (try (obtain ⟨qr, qt, xc⟩ := cf2 hb2 (w.heap.size + 1 + 1); simp [go_sem, *] at qr qt xc)); (try have xm : w.heap.size + 1 + 1 < w2.heap.size := by omega); (try clear qa qb qi); (try clear qu); (try clear qc qf qj); (try clear qw); (try clear qg qh qk); (try clear qz)) | (have _t := tok3; go_at_call 33; (with_reducible refine ((T3 _).out).mono ?_); rintro e w3 ⟨rfl, hb3⟩; clear tok3 _t; have hz3 := hb3.size; (try simp only [sA, sB, sC, sD] at hz3); (try (obtain ⟨xe, xf, xp⟩ := cf2 hb3 (w.heap.size); simp [go_sem, *] at xe xf xp)); (try have xt : w.heap.size < w3.heap.size := by omega); (try (obtain ⟨xg, xh, xq⟩ := cf2 hb3 (w.heap.size + 1); simp [go_sem, *] at xg xh xq)); (try have xu : w.heap.size + 1 < w3.heap.size := by omega); (try (obtain ⟨xi, xj, xr⟩ := cf2 hb3 (w.heap.size + 1 + 1); simp [go_sem, *] at xi xj xr)); (try have xv : w.heap.size + 1 + 1 < w3.heap.size := by omega); (try clear qa qb qi); (try clear qu); (try clear qc qf qj); (try clear qw); (try clear qg qh qk); (try clear qz); (try clear ql qm xa); (try clear xk); (try clear qp qq xb); (try clear xl); (try clear qr qt xc); (try clear xm)))
  go_ret2
  refine ⟨rfl, ?_⟩
  exact bel
 ·rw [h1] at T1
  rw [h2, Bool.false_and] at T2
  rw [e]
  have T3 := T1
  clear h1 h2 e
  have tok1 := trivial
  have tok2 := trivial
  have tok3 := trivial
  go_enter Tryz.func11, Tryz.ntmps11
  go_wp2_with (first | (have _t := tok1; go_at_call 31; (with_reducible refine ((T1 _).out).mono ?_); rintro e w1 ⟨rfl, hb1⟩; clear tok1 _t; have hz1 := hb1.size; (try simp only [sA, sB, sC, sD] at hz1); (try (obtain ⟨qa, qb, qi⟩ := cf2 hb1 (w.heap.size); simp [go_sem, *] at qa qb qi)); (try have qu : w.heap.size < w1.heap.size := by omega); (try (obtain ⟨qc, qf, qj⟩ := cf2 hb1 (w.heap.size + 1); simp [go_sem, *] at qc qf qj)); (try have qw : w.heap.size + 1 < w1.heap.size := by omega); (try (obtain ⟨qg, qh, qk⟩ := cf2 hb1 (w.heap.size + 1 + 1); simp [go_sem, *] at qg qh qk)); (try have qz : w.heap.size + 1 + 1 < w1.heap.size := by omega)) | (have _t := tok2; go_at_call 32; (with_reducible refine ((T2 _).out).mono ?_); rintro e w2 ⟨rfl, hb2⟩; clear tok2 _t; have hz2 := hb2.size; (try simp only [sA, sB, sC, sD] at hz2); (try (obtain ⟨ql, qm, xa⟩ := cf2 hb2 (w.heap.size); simp [go_sem, *] at ql qm xa)); (try have xk : w.heap.size < w2.heap.size := by omega); (try (obtain ⟨qp, qq, xb⟩ := cf2 hb2 (w.heap.size + 1); simp [go_sem, *] at qp qq xb)); (try have xl : w.heap.size + 1 < w2.heap.size := by omega); (try (obtain ⟨qr, qt, xc⟩ := cf2 hb2 (w.heap.size + 1 + 1); simp [go_sem, *] at qr qt xc)); (try have xm : w.heap.size + 1 + 1 < w2.heap.size := by omega); (try clear qa qb qi); (try clear qu); (try clear qc qf qj); (try clear qw); (try clear qg qh qk); (try clear qz)) | (have _t := tok3; go_at_call 33; (with_reducible refine ((T3 _).out).mono ?_); rintro e w3 ⟨rfl, hb3⟩; clear tok3 _t; have hz3 := hb3.size; (try simp only [sA, sB, sC, sD] at hz3); (try (obtain ⟨xe, xf, xp⟩ := cf2 hb3 (w.heap.size); simp [go_sem, *] at xe xf xp)); (try have xt : w.heap.size < w3.heap.size := by omega); (try (obtain ⟨xg, xh, xq⟩ := cf2 hb3 (w.heap.size + 1); simp [go_sem, *] at xg xh xq)); (try have xu : w.heap.size + 1 < w3.heap.size := by omega); (try (obtain ⟨xi, xj, xr⟩ := cf2 hb3 (w.heap.size + 1 + 1); simp [go_sem, *] at xi xj xr)); (try have xv : w.heap.size + 1 + 1 < w3.heap.size := by omega); (try clear qa qb qi); (try clear qu); (try clear qc qf qj); (try clear qw); (try clear qg qh qk); (try clear qz); (try clear ql qm xa); (try clear xk); (try clear qp qq xb); (try clear xl); (try clear qr qt xc); (try clear xm)))
  go_ret2
  refine ⟨rfl, ?_⟩
  exact bel
 ·rw [h1] at T1
  rw [h2, h3, Bool.true_and] at T2
  rw [e]
  have T3 := T1
  clear h1 h2 h3 e
  have tok1 := trivial
  have tok2 := trivial
  have tok3 := trivial
  go_enter Tryz.func11, Tryz.ntmps11
  go_wp2_with (first | (have _t := tok1; go_at_call 31; (with_reducible refine ((T1 _).out).mono ?_); rintro e w1 ⟨rfl, hb1⟩; clear tok1 _t; have hz1 := hb1.size; (try simp only [sA, sB, sC, sD] at hz1); (try (obtain ⟨qa, qb, qi⟩ := cf2 hb1 (w.heap.size); simp [go_sem, *] at qa qb qi)); (try have qu : w.heap.size < w1.heap.size := by omega); (try (obtain ⟨qc, qf, qj⟩ := cf2 hb1 (w.heap.size + 1); simp [go_sem, *] at qc qf qj)); (try have qw : w.heap.size + 1 < w1.heap.size := by omega); (try (obtain ⟨qg, qh, qk⟩ := cf2 hb1 (w.heap.size + 1 + 1); simp [go_sem, *] at qg qh qk)); (try have qz : w.heap.size + 1 + 1 < w1.heap.size := by omega)) | (have _t := tok2; go_at_call 32; (with_reducible refine ((T2 _).out).mono ?_); rintro e w2 ⟨rfl, hb2⟩; clear tok2 _t; have hz2 := hb2.size; (try simp only [sA, sB, sC, sD] at hz2); (try (obtain ⟨ql, qm, xa⟩ := cf2 hb2 (w.heap.size); simp [go_sem, *] at ql qm xa)); (try have xk : w.heap.size < w2.heap.size := by omega); (try (obtain ⟨qp, qq, xb⟩ := cf2 hb2 (w.heap.size + 1); simp [go_sem, *] at qp qq xb)); (try have xl : w.heap.size + 1 < w2.heap.size := by omega); (try (obtain ⟨qr, qt, xc⟩ := cf2 hb2 (w.heap.size + 1 + 1); simp [go_sem, *] at qr qt xc)); (try have xm : w.heap.size + 1 + 1 < w2.heap.size := by omega); (try clear qa qb qi); (try clear qu); (try clear qc qf qj); (try clear qw); (try clear qg qh qk); (try clear qz)) | (have _t := tok3; go_at_call 33; (with_reducible refine ((T3 _).out).mono ?_); rintro e w3 ⟨rfl, hb3⟩; clear tok3 _t; have hz3 := hb3.size; (try simp only [sA, sB, sC, sD] at hz3); (try (obtain ⟨xe, xf, xp⟩ := cf2 hb3 (w.heap.size); simp [go_sem, *] at xe xf xp)); (try have xt : w.heap.size < w3.heap.size := by omega); (try (obtain ⟨xg, xh, xq⟩ := cf2 hb3 (w.heap.size + 1); simp [go_sem, *] at xg xh xq)); (try have xu : w.heap.size + 1 < w3.heap.size := by omega); (try (obtain ⟨xi, xj, xr⟩ := cf2 hb3 (w.heap.size + 1 + 1); simp [go_sem, *] at xi xj xr)); (try have xv : w.heap.size + 1 + 1 < w3.heap.size := by omega); (try clear qa qb qi); (try clear qu); (try clear qc qf qj); (try clear qw); (try clear qg qh qk); (try clear qz); (try clear ql qm xa); (try clear xk); (try clear qp qq xb); (try clear xl); (try clear qr qt xc); (try clear xm)))
  go_ret2
  refine ⟨rfl, ?_⟩
  exact bel
 ·have b1 := tcB_bd h1
  have T3 := fun W : World => Lib.hid (tcOn_any a b nx dx ny dy W (by omega) (by omega) h2 h3)
  rw [h1] at T1
  rw [h2, h3, Bool.true_and] at T2
  rw [e]
  clear h1 h2 h3 e b1
  generalize (onS a b nx dx ny dy).1 = r1 at *
  generalize (onS a b nx dx ny dy).2 = r2 at *
  have tok1 := trivial
  have tok2 := trivial
  have tok3 := trivial
  go_enter Tryz.func11, Tryz.ntmps11
  go_wp2_with (first | (have _t := tok1; go_at_call 31; (with_reducible refine ((T1 _).out).mono ?_); rintro e w1 ⟨rfl, hb1⟩; clear tok1 _t; have hz1 := hb1.size; (try simp only [sA, sB, sC, sD] at hz1); (try (obtain ⟨qa, qb, qi⟩ := cf2 hb1 (w.heap.size); simp [go_sem, *] at qa qb qi)); (try have qu : w.heap.size < w1.heap.size := by omega); (try (obtain ⟨qc, qf, qj⟩ := cf2 hb1 (w.heap.size + 1); simp [go_sem, *] at qc qf qj)); (try have qw : w.heap.size + 1 < w1.heap.size := by omega); (try (obtain ⟨qg, qh, qk⟩ := cf2 hb1 (w.heap.size + 1 + 1); simp [go_sem, *] at qg qh qk)); (try have qz : w.heap.size + 1 + 1 < w1.heap.size := by omega)) | (have _t := tok2; go_at_call 32; (with_reducible refine ((T2 _).out).mono ?_); rintro e w2 ⟨rfl, hb2⟩; clear tok2 _t; have hz2 := hb2.size; (try simp only [sA, sB, sC, sD] at hz2); (try (obtain ⟨ql, qm, xa⟩ := cf2 hb2 (w.heap.size); simp [go_sem, *] at ql qm xa)); (try have xk : w.heap.size < w2.heap.size := by omega); (try (obtain ⟨qp, qq, xb⟩ := cf2 hb2 (w.heap.size + 1); simp [go_sem, *] at qp qq xb)); (try have xl : w.heap.size + 1 < w2.heap.size := by omega); (try (obtain ⟨qr, qt, xc⟩ := cf2 hb2 (w.heap.size + 1 + 1); simp [go_sem, *] at qr qt xc)); (try have xm : w.heap.size + 1 + 1 < w2.heap.size := by omega); (try clear qa qb qi); (try clear qu); (try clear qc qf qj); (try clear qw); (try clear qg qh qk); (try clear qz)) | (have _t := tok3; go_at_call 33; (with_reducible refine ((T3 _).out).mono ?_); rintro e w3 ⟨rfl, hb3⟩; clear tok3 _t; have hz3 := hb3.size; (try simp only [sA, sB, sC, sD] at hz3); (try (obtain ⟨xe, xf, xp⟩ := cf2 hb3 (w.heap.size); simp [go_sem, *] at xe xf xp)); (try have xt : w.heap.size < w3.heap.size := by omega); (try (obtain ⟨xg, xh, xq⟩ := cf2 hb3 (w.heap.size + 1); simp [go_sem, *] at xg xh xq)); (try have xu : w.heap.size + 1 < w3.heap.size := by omega); (try (obtain ⟨xi, xj, xr⟩ := cf2 hb3 (w.heap.size + 1 + 1); simp [go_sem, *] at xi xj xr)); (try have xv : w.heap.size + 1 + 1 < w3.heap.size := by omega); (try clear qa qb qi); (try clear qu); (try clear qc qf qj); (try clear qw); (try clear qg qh qk); (try clear qz); (try clear ql qm xa); (try clear xk); (try clear qp qq xb); (try clear xl); (try clear qr qt xc); (try clear xm)))
  go_ret2
  refine ⟨rfl, ?_⟩
  exact bel
theorem IsTwoPoint_any (a b nx dx ny dy : Int) (w : World) : Calls Tryz.prog 10 #[.agg #[.int .i64 a, .int .i64 b], .agg #[.int .i64 nx, .int .i64 dx], .agg #[.int .i64 ny, .int .i64 dy]] w fun e w' =>
   e = .returned (.tuple #[.bool (twP a b nx dx ny dy).1, .bool (twP a b nx dx ny dy).2]) ∧ Below w.heap.size w w' := by
 have T1 := fun W : World => Lib.hid (isTwoCurve_any a b W)
 have T2 := fun W : World => Lib.hid (isFraction_any nx dx W)
 have T4 := fun W : World => Lib.hid (isFraction_any ny dy W)
 have hnot : ∀ (x : Bool) (w : World), (Op.unary .not (.bool x)).run Tryz.prog w = .ok (.bool (!x)) w := fun _ _ => rfl
 rcases twP_cases a b nx dx ny dy with ⟨h1, e⟩ | ⟨h1, ⟨h2, e⟩ | ⟨h2, ⟨h3, e⟩ | ⟨h3, e⟩⟩⟩
 ·rw [h1] at T1
  rw [e]
  have T3 := T1
  clear h1 e
  have tok1 := trivial
  have tok2 := trivial
  have tok3 := trivial
  have tok4 := trivial
  go_enter Tryz.func10, Tryz.ntmps10
  go_wp2_with (first | (have _t := tok1; go_at_call 23; (with_reducible refine ((T1 _).out).mono ?_); rintro e w1 ⟨rfl, hb1⟩; clear tok1 _t; have hz1 := hb1.size; (try simp only [sA, sB, sC, sD] at hz1); (try (obtain ⟨qa, qb, qq⟩ := cf2 hb1 (w.heap.size); simp [go_sem, *] at qa qb qq)); (try have qu : w.heap.size < w1.heap.size := by omega); (try (obtain ⟨qc, qf, qr⟩ := cf2 hb1 (w.heap.size + 1); simp [go_sem, *] at qc qf qr)); (try have qw : w.heap.size + 1 < w1.heap.size := by omega); (try (obtain ⟨qg, qh, qt⟩ := cf2 hb1 (w.heap.size + 1 + 1); simp [go_sem, *] at qg qh qt)); (try have qz : w.heap.size + 1 + 1 < w1.heap.size := by omega)) | (have _t := tok2; go_at_call 24; (with_reducible refine ((T2 _).out).mono ?_); rintro e w2 ⟨rfl, hb2⟩; clear tok2 _t; have hz2 := hb2.size; (try simp only [sA, sB, sC, sD] at hz2); (try (obtain ⟨qi, qj, xa⟩ := cf2 hb2 (w.heap.size); simp [go_sem, *] at qi qj xa)); (try have xk : w.heap.size < w2.heap.size := by omega); (try (obtain ⟨qk, ql, xb⟩ := cf2 hb2 (w.heap.size + 1); simp [go_sem, *] at qk ql xb)); (try have xl : w.heap.size + 1 < w2.heap.size := by omega); (try (obtain ⟨qm, qp, xc⟩ := cf2 hb2 (w.heap.size + 1 + 1); simp [go_sem, *] at qm qp xc)); (try have xm : w.heap.size + 1 + 1 < w2.heap.size := by omega); (try clear qa qb qq); (try clear qu); (try clear qc qf qr); (try clear qw); (try clear qg qh qt); (try clear qz)) | (have _t := tok3; go_at_call 24; (with_reducible refine ((T4 _).out).mono ?_); rintro e w3 ⟨rfl, hb3⟩; clear tok3 _t; have hz3 := hb3.size; (try simp only [sA, sB, sC, sD] at hz3); (try (obtain ⟨xe, xf, xp⟩ := cf2 hb3 (w.heap.size); simp [go_sem, *] at xe xf xp)); (try have xz : w.heap.size < w3.heap.size := by omega); (try (obtain ⟨xg, xh, xq⟩ := cf2 hb3 (w.heap.size + 1); simp [go_sem, *] at xg xh xq)); (try have za : w.heap.size + 1 < w3.heap.size := by omega); (try (obtain ⟨xi, xj, xr⟩ := cf2 hb3 (w.heap.size + 1 + 1); simp [go_sem, *] at xi xj xr)); (try have zb : w.heap.size + 1 + 1 < w3.heap.size := by omega); (try clear qa qb qq); (try clear qu); (try clear qc qf qr); (try clear qw); (try clear qg qh qt); (try clear qz); (try clear qi qj xa); (try clear xk); (try clear qk ql xb); (try clear xl); (try clear qm qp xc); (try clear xm)) | (have _t := tok4; go_at_call 25; (with_reducible refine ((T3 _).out).mono ?_); rintro e w4 ⟨rfl, hb4⟩; clear tok4 _t; have hz4 := hb4.size; (try simp only [sA, sB, sC, sD] at hz4); (try (obtain ⟨xt, xu, zc⟩ := cf2 hb4 (w.heap.size); simp [go_sem, *] at xt xu zc)); (try have zf : w.heap.size < w4.heap.size := by omega); (try (obtain ⟨xv, xw, zd⟩ := cf2 hb4 (w.heap.size + 1); simp [go_sem, *] at xv xw zd)); (try have zg : w.heap.size + 1 < w4.heap.size := by omega); (try (obtain ⟨xx, xy, ze⟩ := cf2 hb4 (w.heap.size + 1 + 1); simp [go_sem, *] at xx xy ze)); (try have zh : w.heap.size + 1 + 1 < w4.heap.size := by omega); (try clear qa qb qq); (try clear qu); (try clear qc qf qr); (try clear qw); (try clear qg qh qt); (try clear qz); (try clear qi qj xa); (try clear xk); (try clear qk ql xb); (try clear xl); (try clear qm qp xc); (try clear xm); (try clear xe xf xp); (try clear xz); (try clear xg xh xq); (try clear za); (try clear xi xj xr); (try clear zb)))
  go_ret2
  refine ⟨rfl, ?_⟩
  exact bel
 ·rw [h1] at T1
  rw [h2] at T2
  rw [e]
  have T3 := T1
  clear h1 h2 e
  have tok1 := trivial
  have tok2 := trivial
  have tok3 := trivial
  have tok4 := trivial
  go_enter Tryz.func10, Tryz.ntmps10
  go_wp2_with (first | (have _t := tok1; go_at_call 23; (with_reducible refine ((T1 _).out).mono ?_); rintro e w1 ⟨rfl, hb1⟩; clear tok1 _t; have hz1 := hb1.size; (try simp only [sA, sB, sC, sD] at hz1); (try (obtain ⟨qa, qb, qq⟩ := cf2 hb1 (w.heap.size); simp [go_sem, *] at qa qb qq)); (try have qu : w.heap.size < w1.heap.size := by omega); (try (obtain ⟨qc, qf, qr⟩ := cf2 hb1 (w.heap.size + 1); simp [go_sem, *] at qc qf qr)); (try have qw : w.heap.size + 1 < w1.heap.size := by omega); (try (obtain ⟨qg, qh, qt⟩ := cf2 hb1 (w.heap.size + 1 + 1); simp [go_sem, *] at qg qh qt)); (try have qz : w.heap.size + 1 + 1 < w1.heap.size := by omega)) | (have _t := tok2; go_at_call 24; (with_reducible refine ((T2 _).out).mono ?_); rintro e w2 ⟨rfl, hb2⟩; clear tok2 _t; have hz2 := hb2.size; (try simp only [sA, sB, sC, sD] at hz2); (try (obtain ⟨qi, qj, xa⟩ := cf2 hb2 (w.heap.size); simp [go_sem, *] at qi qj xa)); (try have xk : w.heap.size < w2.heap.size := by omega); (try (obtain ⟨qk, ql, xb⟩ := cf2 hb2 (w.heap.size + 1); simp [go_sem, *] at qk ql xb)); (try have xl : w.heap.size + 1 < w2.heap.size := by omega); (try (obtain ⟨qm, qp, xc⟩ := cf2 hb2 (w.heap.size + 1 + 1); simp [go_sem, *] at qm qp xc)); (try have xm : w.heap.size + 1 + 1 < w2.heap.size := by omega); (try clear qa qb qq); (try clear qu); (try clear qc qf qr); (try clear qw); (try clear qg qh qt); (try clear qz)) | (have _t := tok3; go_at_call 24; (with_reducible refine ((T4 _).out).mono ?_); rintro e w3 ⟨rfl, hb3⟩; clear tok3 _t; have hz3 := hb3.size; (try simp only [sA, sB, sC, sD] at hz3); (try (obtain ⟨xe, xf, xp⟩ := cf2 hb3 (w.heap.size); simp [go_sem, *] at xe xf xp)); (try have xz : w.heap.size < w3.heap.size := by omega); (try (obtain ⟨xg, xh, xq⟩ := cf2 hb3 (w.heap.size + 1); simp [go_sem, *] at xg xh xq)); (try have za : w.heap.size + 1 < w3.heap.size := by omega); (try (obtain ⟨xi, xj, xr⟩ := cf2 hb3 (w.heap.size + 1 + 1); simp [go_sem, *] at xi xj xr)); (try have zb : w.heap.size + 1 + 1 < w3.heap.size := by omega); (try clear qa qb qq); (try clear qu); (try clear qc qf qr); (try clear qw); (try clear qg qh qt); (try clear qz); (try clear qi qj xa); (try clear xk); (try clear qk ql xb); (try clear xl); (try clear qm qp xc); (try clear xm)) | (have _t := tok4; go_at_call 25; (with_reducible refine ((T3 _).out).mono ?_); rintro e w4 ⟨rfl, hb4⟩; clear tok4 _t; have hz4 := hb4.size; (try simp only [sA, sB, sC, sD] at hz4); (try (obtain ⟨xt, xu, zc⟩ := cf2 hb4 (w.heap.size); simp [go_sem, *] at xt xu zc)); (try have zf : w.heap.size < w4.heap.size := by omega); (try (obtain ⟨xv, xw, zd⟩ := cf2 hb4 (w.heap.size + 1); simp [go_sem, *] at xv xw zd)); (try have zg : w.heap.size + 1 < w4.heap.size := by omega); (try (obtain ⟨xx, xy, ze⟩ := cf2 hb4 (w.heap.size + 1 + 1); simp [go_sem, *] at xx xy ze)); (try have zh : w.heap.size + 1 + 1 < w4.heap.size := by omega); (try clear qa qb qq); (try clear qu); (try clear qc qf qr); (try clear qw); (try clear qg qh qt); (try clear qz); (try clear qi qj xa); (try clear xk); (try clear qk ql xb); (try clear xl); (try clear qm qp xc); (try clear xm); (try clear xe xf xp); (try clear xz); (try clear xg xh xq); (try clear za); (try clear xi xj xr); (try clear zb)))
  go_ret2
  refine ⟨rfl, ?_⟩
  exact bel
 ·rw [h1] at T1
  rw [h2] at T2
  rw [h3] at T4
  rw [e]
  have T3 := T1
  clear h1 h2 h3 e
  have tok1 := trivial
  have tok2 := trivial
  have tok3 := trivial
  have tok4 := trivial
  go_enter Tryz.func10, Tryz.ntmps10
  go_wp2_with (first | (have _t := tok1; go_at_call 23; (with_reducible refine ((T1 _).out).mono ?_); rintro e w1 ⟨rfl, hb1⟩; clear tok1 _t; have hz1 := hb1.size; (try simp only [sA, sB, sC, sD] at hz1); (try (obtain ⟨qa, qb, qq⟩ := cf2 hb1 (w.heap.size); simp [go_sem, *] at qa qb qq)); (try have qu : w.heap.size < w1.heap.size := by omega); (try (obtain ⟨qc, qf, qr⟩ := cf2 hb1 (w.heap.size + 1); simp [go_sem, *] at qc qf qr)); (try have qw : w.heap.size + 1 < w1.heap.size := by omega); (try (obtain ⟨qg, qh, qt⟩ := cf2 hb1 (w.heap.size + 1 + 1); simp [go_sem, *] at qg qh qt)); (try have qz : w.heap.size + 1 + 1 < w1.heap.size := by omega)) | (have _t := tok2; go_at_call 24; (with_reducible refine ((T2 _).out).mono ?_); rintro e w2 ⟨rfl, hb2⟩; clear tok2 _t; have hz2 := hb2.size; (try simp only [sA, sB, sC, sD] at hz2); (try (obtain ⟨qi, qj, xa⟩ := cf2 hb2 (w.heap.size); simp [go_sem, *] at qi qj xa)); (try have xk : w.heap.size < w2.heap.size := by omega); (try (obtain ⟨qk, ql, xb⟩ := cf2 hb2 (w.heap.size + 1); simp [go_sem, *] at qk ql xb)); (try have xl : w.heap.size + 1 < w2.heap.size := by omega); (try (obtain ⟨qm, qp, xc⟩ := cf2 hb2 (w.heap.size + 1 + 1); simp [go_sem, *] at qm qp xc)); (try have xm : w.heap.size + 1 + 1 < w2.heap.size := by omega); (try clear qa qb qq); (try clear qu); (try clear qc qf qr); (try clear qw); (try clear qg qh qt); (try clear qz)) | (have _t := tok3; go_at_call 24; (with_reducible refine ((T4 _).out).mono ?_); rintro e w3 ⟨rfl, hb3⟩; clear tok3 _t; have hz3 := hb3.size; (try simp only [sA, sB, sC, sD] at hz3); (try (obtain ⟨xe, xf, xp⟩ := cf2 hb3 (w.heap.size); simp [go_sem, *] at xe xf xp)); (try have xz : w.heap.size < w3.heap.size := by omega); (try (obtain ⟨xg, xh, xq⟩ := cf2 hb3 (w.heap.size + 1); simp [go_sem, *] at xg xh xq)); (try have za : w.heap.size + 1 < w3.heap.size := by omega); (try (obtain ⟨xi, xj, xr⟩ := cf2 hb3 (w.heap.size + 1 + 1); simp [go_sem, *] at xi xj xr)); (try have zb : w.heap.size + 1 + 1 < w3.heap.size := by omega); (try clear qa qb qq); (try clear qu); (try clear qc qf qr); (try clear qw); (try clear qg qh qt); (try clear qz); (try clear qi qj xa); (try clear xk); (try clear qk ql xb); (try clear xl); (try clear qm qp xc); (try clear xm)) | (have _t := tok4; go_at_call 25; (with_reducible refine ((T3 _).out).mono ?_); rintro e w4 ⟨rfl, hb4⟩; clear tok4 _t; have hz4 := hb4.size; (try simp only [sA, sB, sC, sD] at hz4); (try (obtain ⟨xt, xu, zc⟩ := cf2 hb4 (w.heap.size); simp [go_sem, *] at xt xu zc)); (try have zf : w.heap.size < w4.heap.size := by omega); (try (obtain ⟨xv, xw, zd⟩ := cf2 hb4 (w.heap.size + 1); simp [go_sem, *] at xv xw zd)); (try have zg : w.heap.size + 1 < w4.heap.size := by omega); (try (obtain ⟨xx, xy, ze⟩ := cf2 hb4 (w.heap.size + 1 + 1); simp [go_sem, *] at xx xy ze)); (try have zh : w.heap.size + 1 + 1 < w4.heap.size := by omega); (try clear qa qb qq); (try clear qu); (try clear qc qf qr); (try clear qw); (try clear qg qh qt); (try clear qz); (try clear qi qj xa); (try clear xk); (try clear qk ql xb); (try clear xl); (try clear qm qp xc); (try clear xm); (try clear xe xf xp); (try clear xz); (try clear xg xh xq); (try clear za); (try clear xi xj xr); (try clear zb)))
  go_ret2
  refine ⟨rfl, ?_⟩
  exact bel
 ·have b1 := tcB_bd h1
  have T3 := fun W : World => Lib.hid (onTwo_any a b nx dx ny dy W (by omega) (by omega) h2 h3)
  rw [on_eq a b nx dx ny dy (by omega) (by omega)] at T3
  rw [h1] at T1
  rw [h2] at T2
  rw [h3] at T4
  rw [e]
  clear h1 h2 h3 e b1
  generalize (onS a b nx dx ny dy).1 = r1 at *
  generalize (onS a b nx dx ny dy).2 = r2 at *
  have tok1 := trivial
  have tok2 := trivial
  have tok3 := trivial
  have tok4 := trivial
  go_enter Tryz.func10, Tryz.ntmps10
  go_wp2_with (first | (have _t := tok1; go_at_call 23; (with_reducible refine ((T1 _).out).mono ?_); rintro e w1 ⟨rfl, hb1⟩; clear tok1 _t; have hz1 := hb1.size; (try simp only [sA, sB, sC, sD] at hz1); (try (obtain ⟨qa, qb, qq⟩ := cf2 hb1 (w.heap.size); simp [go_sem, *] at qa qb qq)); (try have qu : w.heap.size < w1.heap.size := by omega); (try (obtain ⟨qc, qf, qr⟩ := cf2 hb1 (w.heap.size + 1); simp [go_sem, *] at qc qf qr)); (try have qw : w.heap.size + 1 < w1.heap.size := by omega); (try (obtain ⟨qg, qh, qt⟩ := cf2 hb1 (w.heap.size + 1 + 1); simp [go_sem, *] at qg qh qt)); (try have qz : w.heap.size + 1 + 1 < w1.heap.size := by omega)) | (have _t := tok2; go_at_call 24; (with_reducible refine ((T2 _).out).mono ?_); rintro e w2 ⟨rfl, hb2⟩; clear tok2 _t; have hz2 := hb2.size; (try simp only [sA, sB, sC, sD] at hz2); (try (obtain ⟨qi, qj, xa⟩ := cf2 hb2 (w.heap.size); simp [go_sem, *] at qi qj xa)); (try have xk : w.heap.size < w2.heap.size := by omega); (try (obtain ⟨qk, ql, xb⟩ := cf2 hb2 (w.heap.size + 1); simp [go_sem, *] at qk ql xb)); (try have xl : w.heap.size + 1 < w2.heap.size := by omega); (try (obtain ⟨qm, qp, xc⟩ := cf2 hb2 (w.heap.size + 1 + 1); simp [go_sem, *] at qm qp xc)); (try have xm : w.heap.size + 1 + 1 < w2.heap.size := by omega); (try clear qa qb qq); (try clear qu); (try clear qc qf qr); (try clear qw); (try clear qg qh qt); (try clear qz)) | (have _t := tok3; go_at_call 24; (with_reducible refine ((T4 _).out).mono ?_); rintro e w3 ⟨rfl, hb3⟩; clear tok3 _t; have hz3 := hb3.size; (try simp only [sA, sB, sC, sD] at hz3); (try (obtain ⟨xe, xf, xp⟩ := cf2 hb3 (w.heap.size); simp [go_sem, *] at xe xf xp)); (try have xz : w.heap.size < w3.heap.size := by omega); (try (obtain ⟨xg, xh, xq⟩ := cf2 hb3 (w.heap.size + 1); simp [go_sem, *] at xg xh xq)); (try have za : w.heap.size + 1 < w3.heap.size := by omega); (try (obtain ⟨xi, xj, xr⟩ := cf2 hb3 (w.heap.size + 1 + 1); simp [go_sem, *] at xi xj xr)); (try have zb : w.heap.size + 1 + 1 < w3.heap.size := by omega); (try clear qa qb qq); (try clear qu); (try clear qc qf qr); (try clear qw); (try clear qg qh qt); (try clear qz); (try clear qi qj xa); (try clear xk); (try clear qk ql xb); (try clear xl); (try clear qm qp xc); (try clear xm)) | (have _t := tok4; go_at_call 25; (with_reducible refine ((T3 _).out).mono ?_); rintro e w4 ⟨rfl, hb4⟩; clear tok4 _t; have hz4 := hb4.size; (try simp only [sA, sB, sC, sD] at hz4); (try (obtain ⟨xt, xu, zc⟩ := cf2 hb4 (w.heap.size); simp [go_sem, *] at xt xu zc)); (try have zf : w.heap.size < w4.heap.size := by omega); (try (obtain ⟨xv, xw, zd⟩ := cf2 hb4 (w.heap.size + 1); simp [go_sem, *] at xv xw zd)); (try have zg : w.heap.size + 1 < w4.heap.size := by omega); (try (obtain ⟨xx, xy, ze⟩ := cf2 hb4 (w.heap.size + 1 + 1); simp [go_sem, *] at xx xy ze)); (try have zh : w.heap.size + 1 + 1 < w4.heap.size := by omega); (try clear qa qb qq); (try clear qu); (try clear qc qf qr); (try clear qw); (try clear qg qh qt); (try clear qz); (try clear qi qj xa); (try clear xk); (try clear qk ql xb); (try clear xl); (try clear qm qp xc); (try clear xm); (try clear xe xf xp); (try clear xz); (try clear xg xh xq); (try clear za); (try clear xi xj xr); (try clear zb)))
  go_ret2
  refine ⟨rfl, ?_⟩
  exact bel
end Go.Proofs.YtnemnkbcbokafaaGreat
