/- Lemmas and contracts of functions. No condition. -/
import Derived.Test.YtnkmgpmehkholaaGreatPq18
import Derived.Test.YtnkmgpmehkholaaGreatPq25
import Derived.Test.YtnkmgpmehkholaaGreatPq47
namespace Go.Proofs.YtnkmgpmehkholaaGreat
section
open Go.RowKit
set_option linter.unusedVariables false
set_option maxHeartbeats 4000000
set_option maxRecDepth 20000
set_option linter.unusedSimpArgs false
attribute [local go_sem] openAt openUpon
theorem keepY {W V : World} {b : Nat} {X : Obj} (h : Below W.heap.size W V) (e : W.heap[b]? = some X) : V.heap[b]? = some X := (h.block b (Array.getElem?_eq_some_iff.1 e).1).trans e
theorem pq_pt {A B x y e : Int} (h : pqB A B x y e = true) : ptB A B x y e = true := by unfold pqB at h; rw [Bool.and_eq_true] at h; exact h.2
theorem pq_of {A B x y e x2 y2 e2 : Int} (h : pqB A B x y e = true) (h2 : ptB A B x2 y2 e2 = true) : pqB A B x2 y2 e2 = true := by unfold pqB at h ⊢; rw [Bool.and_eq_true] at h ⊢; exact ⟨h.1, h2⟩
/-- the pairing of two points -/
noncomputable def prV (A B x1 y1 e1 x2 y2 e2 : Int) : I5 :=
 if ((ptS A x1 y1 e1 x2 y2 e2).2.2.2 && BK A B (ptS A x1 y1 e1 x2 y2 e2).1 (ptS A x1 y1 e1 x2 y2 e2).2.2.1) = true then
  lsF A B [x1, y1, e1, x2, y2, e2] 2 0 (BL A B (ptS A x1 y1 e1 x2 y2 e2).1 (ptS A x1 y1 e1 x2 y2 e2).2.2.1) (BH A B (ptS A x1 y1 e1 x2 y2 e2).1 (ptS A x1 y1 e1 x2 y2 e2).2.2.1)
 else ivZ
theorem hpTwo_any (A B x1 y1 e1 x2 y2 e2 : Int) (w : World) :
  Calls Tryz.prog 16 #[.agg #[.int .i64 A, .int .i64 B], .agg #[.int .i64 x1, .int .i64 y1, .int .i64 e1], .agg #[.int .i64 x2, .int .i64 y2, .int .i64 e2]] w fun r w' => r = .returned (.bool (pqB A B x1 y1 e1 && pqB A B x2 y2 e2)) ∧ Below w.heap.size w w' := by
 have T1 := fun W : World => Lib.hid (sIsP_any A B x1 y1 e1 W)
 have T2 := fun W : World => Lib.hid (sIsP_any A B x2 y2 e2 W)
 cases h : pqB A B x1 y1 e1
 ·rw [h] at T1
  rw [Bool.false_and]
  clear T2 h
  have T2 := T1
  have tok1 := trivial
  have tok2 := trivial
  go_enter Tryz.func16, Tryz.ntmps16
  go_wp2_with (first | (have _t := tok1; go_at_call 33; (with_reducible refine ((T1 _).out).mono ?_); rintro e w1 ⟨rfl, hb1⟩; clear tok1 _t; have hz1 := hb1.size; (try simp only [sA, sB, sC, sD] at hz1); (try (obtain ⟨kq, qk⟩ := cfAt hb1 (w.heap.size); have qc := kq 0; have qd := kq 1; clear kq; simp [go_sem, *] at qc qd qk)); (try have qx : w.heap.size < w1.heap.size := by omega); (try (obtain ⟨kq, ql⟩ := cfAt hb1 (w.heap.size + 1); have qe := kq 0; have qf := kq 1; have qg := kq 2; clear kq; simp [go_sem, *] at qe qf qg ql)); (try have qy : w.heap.size + 1 < w1.heap.size := by omega); (try (obtain ⟨kq, qm⟩ := cfAt hb1 (w.heap.size + 1 + 1); have qh := kq 0; have qi := kq 1; have qj := kq 2; clear kq; simp [go_sem, *] at qh qi qj qm)); (try have qz : w.heap.size + 1 + 1 < w1.heap.size := by omega)) | (have _t := tok2; go_at_call 33; (with_reducible refine ((T2 _).out).mono ?_); rintro e w2 ⟨rfl, hb2⟩; clear tok2 _t; have hz2 := hb2.size; (try simp only [sA, sB, sC, sD] at hz2); (try (obtain ⟨kq, xc⟩ := cfAt hb2 (w.heap.size); have qn := kq 0; have qo := kq 1; clear kq; simp [go_sem, *] at qn qo xc)); (try have xf : w.heap.size < w2.heap.size := by omega); (try (obtain ⟨kq, xd⟩ := cfAt hb2 (w.heap.size + 1); have qq := kq 0; have qr := kq 1; have qt := kq 2; clear kq; simp [go_sem, *] at qq qr qt xd)); (try have xg : w.heap.size + 1 < w2.heap.size := by omega); (try (obtain ⟨kq, xe⟩ := cfAt hb2 (w.heap.size + 1 + 1); have qu := kq 0; have qv := kq 1; have qw := kq 2; clear kq; simp [go_sem, *] at qu qv qw xe)); (try have xh : w.heap.size + 1 + 1 < w2.heap.size := by omega); (try clear qc qd qk); (try clear qx); (try clear qe qf qg ql); (try clear qy); (try clear qh qi qj qm); (try clear qz)))
  go_ret
  refine ⟨rfl, ?_⟩
  exact bel
 ·rw [h] at T1
  rw [Bool.true_and]
  generalize pqB A B x2 y2 e2 = b at *
  clear h
  have tok1 := trivial
  have tok2 := trivial
  go_enter Tryz.func16, Tryz.ntmps16
  go_wp2_with (first | (have _t := tok1; go_at_call 33; (with_reducible refine ((T1 _).out).mono ?_); rintro e w1 ⟨rfl, hb1⟩; clear tok1 _t; have hz1 := hb1.size; (try simp only [sA, sB, sC, sD] at hz1); (try (obtain ⟨kq, qk⟩ := cfAt hb1 (w.heap.size); have qc := kq 0; have qd := kq 1; clear kq; simp [go_sem, *] at qc qd qk)); (try have qx : w.heap.size < w1.heap.size := by omega); (try (obtain ⟨kq, ql⟩ := cfAt hb1 (w.heap.size + 1); have qe := kq 0; have qf := kq 1; have qg := kq 2; clear kq; simp [go_sem, *] at qe qf qg ql)); (try have qy : w.heap.size + 1 < w1.heap.size := by omega); (try (obtain ⟨kq, qm⟩ := cfAt hb1 (w.heap.size + 1 + 1); have qh := kq 0; have qi := kq 1; have qj := kq 2; clear kq; simp [go_sem, *] at qh qi qj qm)); (try have qz : w.heap.size + 1 + 1 < w1.heap.size := by omega)) | (have _t := tok2; go_at_call 33; (with_reducible refine ((T2 _).out).mono ?_); rintro e w2 ⟨rfl, hb2⟩; clear tok2 _t; have hz2 := hb2.size; (try simp only [sA, sB, sC, sD] at hz2); (try (obtain ⟨kq, xc⟩ := cfAt hb2 (w.heap.size); have qn := kq 0; have qo := kq 1; clear kq; simp [go_sem, *] at qn qo xc)); (try have xf : w.heap.size < w2.heap.size := by omega); (try (obtain ⟨kq, xd⟩ := cfAt hb2 (w.heap.size + 1); have qq := kq 0; have qr := kq 1; have qt := kq 2; clear kq; simp [go_sem, *] at qq qr qt xd)); (try have xg : w.heap.size + 1 < w2.heap.size := by omega); (try (obtain ⟨kq, xe⟩ := cfAt hb2 (w.heap.size + 1 + 1); have qu := kq 0; have qv := kq 1; have qw := kq 2; clear kq; simp [go_sem, *] at qu qv qw xe)); (try have xh : w.heap.size + 1 + 1 < w2.heap.size := by omega); (try clear qc qd qk); (try clear qx); (try clear qe qf qg ql); (try clear qy); (try clear qh qi qj qm); (try clear qz)))
  go_ret
  refine ⟨rfl, ?_⟩
  exact bel
/-- what PairingOf answers -/
noncomputable def prF (A B x1 y1 e1 x2 y2 e2 : Int) : I5 := if (pqB A B x1 y1 e1 && pqB A B x2 y2 e2) = true then prV A B x1 y1 e1 x2 y2 e2 else ivZ
end
section
open Go.RowKit
set_option linter.unusedVariables false
set_option maxHeartbeats 4000000
set_option maxRecDepth 20000
set_option linter.unusedSimpArgs false
attribute [local go_sem] openAt openUpon
/-- the gap, if the sum and the difference are points -/
noncomputable def gpH (A B s1 s3 t1 t3 x1 y1 e1 x2 y2 e2 : Int) : I5 :=
 if (BK A B s1 s3 && BK A B t1 t3) = true then
  (if validB (BL A B s1 s3 + BL A B t1 t3) (BH A B s1 s3 + BH A B t1 t3) = true then lsF A B [x1, y1, e1, x2, y2, e2, x1, y1, e1, x2, y2, e2] 4 0 (BL A B s1 s3 + BL A B t1 t3) (BH A B s1 s3 + BH A B t1 t3) else ivZ)
 else ivZ
noncomputable def gpV (A B x1 y1 e1 x2 y2 e2 : Int) : I5 :=
 if ((ptS A x1 y1 e1 x2 y2 e2).2.2.2 && (ptS A x1 y1 e1 x2 (-y2) e2).2.2.2) = true then
  gpH A B (ptS A x1 y1 e1 x2 y2 e2).1 (ptS A x1 y1 e1 x2 y2 e2).2.2.1 (ptS A x1 y1 e1 x2 (-y2) e2).1 (ptS A x1 y1 e1 x2 (-y2) e2).2.2.1 x1 y1 e1 x2 y2 e2
 else ivZ
/-- what ParallelogramGap answers -/
noncomputable def gpF (A B x1 y1 e1 x2 y2 e2 : Int) : I5 := if (pqB A B x1 y1 e1 && pqB A B x2 y2 e2) = true then gpV A B x1 y1 e1 x2 y2 e2 else ivZ
theorem four_pts {A B x1 y1 e1 x2 y2 e2 : Int} (h1 : pqB A B x1 y1 e1 = true) (h2 : pqB A B x2 y2 e2 = true) : ∀ j, j < 4 → pqB A B ([x1, y1, e1, x2, y2, e2, x1, y1, e1, x2, y2, e2][j * 3]?.getD 0) ([x1, y1, e1, x2, y2, e2, x1, y1, e1, x2, y2, e2][j * 3 + 1]?.getD 0) ([x1, y1, e1, x2, y2, e2, x1, y1, e1, x2, y2, e2][j * 3 + 2]?.getD 0) = true := by
 intro j hj
 rcases (show j = 0 ∨ j = 1 ∨ j = 2 ∨ j = 3 by omega) with rfl | rfl | rfl | rfl
 ·exact h1
 ·exact h2
 ·exact h1
 ·exact h2
theorem gpB_neg {A B x y e : Int} (h : ptB A B x y e = true) : ptB A B x (-y) e = true := by
 unfold ptB at *
 split at h
 ·rename_i he
  rw [if_pos he]
  simp only [Bool.and_eq_true, decide_eq_true_eq] at *
  omega
 ·rename_i he
  rw [if_neg he]
  simp only [Bool.and_eq_true, decide_eq_true_eq] at *
  rw [Int.neg_mul_neg]
  exact h
theorem pq_y {A B x y e : Int} (h : pqB A B x y e = true) : -3000000 ≤ y ∧ y ≤ 3000000 := by
 have hb := pq_bd h
 rcases pt_cases hb.1 hb.2.1 (pq_pt h) with ⟨_, h0, _⟩ | ⟨_, _, h0, _⟩ <;> omega
theorem gpMinus_any (x y e : Int) (w : World) (hy : -9223372036854775807 ≤ y ∧ y ≤ 9223372036854775807) : Calls Tryz.prog 24 #[.agg #[.int .i64 x, .int .i64 y, .int .i64 e]] w fun r w' =>
  r = .returned (.agg #[.int .i64 x, .int .i64 (-y), .int .i64 e]) ∧ Below w.heap.size w w' := by
 go_enter Tryz.func24, Tryz.ntmps24
 go_wp2_with fail
 refine bodyPost_ret (v := _) (by simp [results, Tryz.results24, go_sem, *]) rfl ⟨rfl, ?_⟩
 exact bel
theorem sGap_no (A B x1 y1 e1 x2 y2 e2 : Int) (w : World) (hk : (pqB A B x1 y1 e1 && pqB A B x2 y2 e2) = false) :
  Calls Tryz.prog 14 #[.agg #[.int .i64 A, .int .i64 B], .agg #[.int .i64 x1, .int .i64 y1, .int .i64 e1], .agg #[.int .i64 x2, .int .i64 y2, .int .i64 e2]] w fun r w' =>
   r = .returned (.tuple #[.agg #[.int .i64 0, .int .i64 0, .int .i64 0, .int .i64 0], .bool false]) ∧ Below w.heap.size w w' := by
 have TT := fun W : World => Lib.hid (hpTwo_any A B x1 y1 e1 x2 y2 e2 W)
 rw [hk] at TT
 clear hk
 have tok1 := trivial
 have tok2 := trivial
 have tok3 := trivial
 have tok4 := trivial
 have tok5 := trivial
 have tok6 := trivial
 have tok7 := trivial
 have tok8 := trivial
 have tok9 := trivial
 go_enter Tryz.func14, Tryz.ntmps14
 go_upto_region 1 with fail
 refine chk (fun W => Below w.heap.size w W ∧ W.heap[w.heap.size]? = some (.cells #[.int .i64 A, .int .i64 B] 32 (0, 0)) ∧ W.heap[w.heap.size + 1]? = some (.cells #[.int .i64 x1, .int .i64 y1, .int .i64 e1] 34 (0, 0)) ∧ W.heap[w.heap.size + 1 + 1]? = some (.cells #[.int .i64 x2, .int .i64 y2, .int .i64 e2] 34 (0, 0)) ∧ W.heap[w.heap.size + 1 + 1 + 1]? = some (.cells #[.int .i64 0, .int .i64 0, .int .i64 0, .int .i64 0] 29 (0, 0))) (by refine ⟨?_, ?_, ?_, ?_, ?_⟩ <;> (exact ck)) ?_
 rintro w1 ⟨hB1, qd, qe, qf, qc⟩
 obtain ⟨qh, qi, qz, xf⟩ := bk2 qd
 replace qd := Lib.hid qd
 obtain ⟨qj, qk, ql, xc, xg⟩ := bk3 qe
 replace qe := Lib.hid qe
 obtain ⟨qm, qn, qo, xd, xh⟩ := bk3 qf
 replace qf := Lib.hid qf
 obtain ⟨qq, qr, qt, qu, xe, xi⟩ := bk4 qc
 replace qc := Lib.hid qc
 go_upto_region 2 with (first | (have _t := tok2; go_at_call 16; (with_reducible refine ((TT _).out).mono ?_); rintro e w2 ⟨rfl, hb2⟩; clear tok2 _t; have hz2 := hb2.size; (try simp only [sA, sB, sC, sD] at hz2)))
 have hR2 := keepY hb2 qc.out
 have hB2 := below_via hb2 hB1 hB1.size
 clear hb2
 replace qd := qd.out
 replace qe := qe.out
 replace qf := qf.out
 replace qc := qc.out
 refine chk (fun W => Below w.heap.size w W ∧ W.heap[w.heap.size + 1 + 1 + 1]? = some (.cells #[.int .i64 0, .int .i64 0, .int .i64 0, .int .i64 0] 29 (0, 0))) (by refine ⟨?_, ?_⟩ <;> (exact ck)) ?_
 clear qh qi qz qd
 clear qj qk ql xc qe
 clear qm qn qo xd qf
 clear qq qr qt qu xe qc
 clear hB1
 rintro w3 ⟨hB3, qg⟩
 obtain ⟨qv, qw, qx, qy, xj, xk⟩ := bk4 qg
 replace qg := Lib.hid qg
 iterate 40 (first | (with_reducible show bodyPost _ _ _ _ _ _) | (with_reducible refine wp_ret ?_) | go_values | go_skip | go_guarded | go_step | go_upon | go_back | skip)
 refine bodyPost_ret (v := .tuple #[.agg #[.int .i64 0, .int .i64 0, .int .i64 0, .int .i64 0], .bool false]) (by simp [results, Tryz.results14, go_sem, qv, qw, qx, qy]) rfl ⟨rfl, ?_⟩
 have HO := qg.out
 (exact ck)
theorem sGap_yes {A B x1 y1 e1 x2 y2 e2 : Int} (w : World) (h1 : pqB A B x1 y1 e1 = true) (h2 : pqB A B x2 y2 e2 = true) :
  Calls Tryz.prog 14 #[.agg #[.int .i64 A, .int .i64 B], .agg #[.int .i64 x1, .int .i64 y1, .int .i64 e1], .agg #[.int .i64 x2, .int .i64 y2, .int .i64 e2]] w fun r w' =>
   r = .returned (.tuple #[.agg #[.int .i64 (gpV A B x1 y1 e1 x2 y2 e2).1, .int .i64 (gpV A B x1 y1 e1 x2 y2 e2).2.1, .int .i64 (gpV A B x1 y1 e1 x2 y2 e2).2.2.1, .int .i64 (gpV A B x1 y1 e1 x2 y2 e2).2.2.2.1], .bool (gpV A B x1 y1 e1 x2 y2 e2).2.2.2.2]) ∧ Below w.heap.size w w' := by
 have TT := fun W : World => Lib.hid (hpTwo_any A B x1 y1 e1 x2 y2 e2 W)
 rw [h1, h2, Bool.and_self] at TT
 have hb := pq_bd h1
 have hy2 := pq_y h2
 have TP := fun W : World => Lib.hid (ptAdd_any A B x1 y1 e1 x2 y2 e2 W hb.1 hb.2.1 (pq_pt h1) (pq_pt h2))
 have TM := fun W : World => Lib.hid (gpMinus_any x2 y2 e2 W (by omega))
 have TQ := fun W : World => Lib.hid (ptAdd_any A B x1 y1 e1 x2 (-y2) e2 W hb.1 hb.2.1 (pq_pt h1) (gpB_neg (pq_pt h2)))
 have ok1 := ptS_ok hb.1 hb.2.1 (pq_pt h1) (pq_pt h2)
 have ok2 := ptS_ok hb.1 hb.2.1 (pq_pt h1) (gpB_neg (pq_pt h2))
 have hpr : gpV A B x1 y1 e1 x2 y2 e2 = if ((ptS A x1 y1 e1 x2 y2 e2).2.2.2 && (ptS A x1 y1 e1 x2 (-y2) e2).2.2.2) = true then
  gpH A B (ptS A x1 y1 e1 x2 y2 e2).1 (ptS A x1 y1 e1 x2 y2 e2).2.2.1 (ptS A x1 y1 e1 x2 (-y2) e2).1 (ptS A x1 y1 e1 x2 (-y2) e2).2.2.1 x1 y1 e1 x2 y2 e2 else ivZ := rfl
 obtain ⟨s1, s2, s3, so, hs⟩ : ∃ a b c d, ptS A x1 y1 e1 x2 y2 e2 = (a, b, c, d) := ⟨_, _, _, _, rfl⟩
 obtain ⟨t1, t2, t3, to', ht⟩ : ∃ a b c d, ptS A x1 y1 e1 x2 (-y2) e2 = (a, b, c, d) := ⟨_, _, _, _, rfl⟩
 rw [hs] at TP ok1 hpr
 rw [ht] at TQ ok2 hpr
 simp only at TP ok1 TQ ok2 hpr
 obtain ⟨r1, r2, r3, r4, r5, hr⟩ := i5_open (gpV A B x1 y1 e1 x2 y2 e2)
 rw [hr] at hpr ⊢
 have H1 := Lib.hid h1
 have H2 := Lib.hid h2
 have HP := Lib.hid hpr
 have OK1 := Lib.hid ok1
 have OK2 := Lib.hid ok2
 clear hb h1 h2 hs ht hr hpr ok1 ok2 hy2
 generalize hny : -y2 = n2 at *
 clear hny
 have tok1 := trivial
 have tok2 := trivial
 have tok3 := trivial
 have tok4 := trivial
 have tok5 := trivial
 have tok6 := trivial
 have tok7 := trivial
 have tok8 := trivial
 have tok9 := trivial
 have tok10 := trivial
 have tok11 := trivial
 have tok12 := trivial
 have tok13 := trivial
 have tok14 := trivial
 have tok15 := trivial
 go_enter Tryz.func14, Tryz.ntmps14
 go_upto_region 1 with fail
 refine chk (fun W => Below w.heap.size w W ∧ W.heap[w.heap.size]? = some (.cells #[.int .i64 A, .int .i64 B] 32 (0, 0)) ∧ W.heap[w.heap.size + 1]? = some (.cells #[.int .i64 x1, .int .i64 y1, .int .i64 e1] 34 (0, 0)) ∧ W.heap[w.heap.size + 1 + 1]? = some (.cells #[.int .i64 x2, .int .i64 y2, .int .i64 e2] 34 (0, 0)) ∧ W.heap[w.heap.size + 1 + 1 + 1]? = some (.cells #[.int .i64 0, .int .i64 0, .int .i64 0, .int .i64 0] 29 (0, 0))) (by refine ⟨?_, ?_, ?_, ?_, ?_⟩ <;> (exact ck)) ?_
 rintro w1 ⟨hB1, xv, xw, xy, za⟩
 obtain ⟨pm, pn, Qf, Wn⟩ := bk2 xv
 replace xv := Lib.hid xv
 obtain ⟨po, pp, pq, Qg, Wo⟩ := bk3 xw
 replace xw := Lib.hid xw
 obtain ⟨pr, pt, pu, Qh, Wp⟩ := bk3 xy
 replace xy := Lib.hid xy
 obtain ⟨pv, pw, px, dc, Qi, Wq⟩ := bk4 za
 replace za := Lib.hid za
 go_upto_region 3 with (first | (have _t := tok2; go_at_call 16; (with_reducible refine ((TT _).out).mono ?_); rintro e w2 ⟨rfl, hb2⟩; clear tok2 _t; have hz2 := hb2.size; (try simp only [sA, sB, sC, sD] at hz2)))
 have zb := (hb2.block (w.heap.size) (blk_lt' xv.out)).trans xv.out
 clear pm pn Qf xv
 obtain ⟨de, df, Qj, Wr⟩ := bk2 zb
 replace zb := Lib.hid zb
 have zc := (hb2.block (w.heap.size + 1) (blk_lt' xw.out)).trans xw.out
 clear po pp pq Qg xw
 obtain ⟨dg, dh, di, Qk, Ws⟩ := bk3 zc
 replace zc := Lib.hid zc
 have zd := (hb2.block (w.heap.size + 1 + 1) (blk_lt' xy.out)).trans xy.out
 clear pr pt pu Qh xy
 obtain ⟨dj, dk, dl, Ql, Wt⟩ := bk3 zd
 replace zd := Lib.hid zd
 have ze := (hb2.block (w.heap.size + 1 + 1 + 1) (blk_lt' za.out)).trans za.out
 clear pv pw px dc Qi za
 obtain ⟨dm, dn, dq, dr, Qm, Wu⟩ := bk4 ze
 replace ze := Lib.hid ze
 have hB2 : Below w.heap.size w w2 := below_via hb2 (by assumption) (by go_size)
 clear TT
 replace zb := zb.out
 replace zc := zc.out
 replace zd := zd.out
 replace ze := ze.out
 refine chk (fun W => Below w.heap.size w W ∧ W.heap[w.heap.size]? = some (.cells #[.int .i64 A, .int .i64 B] 32 (0, 0)) ∧ W.heap[w.heap.size + 1]? = some (.cells #[.int .i64 x1, .int .i64 y1, .int .i64 e1] 34 (0, 0)) ∧ W.heap[w.heap.size + 1 + 1]? = some (.cells #[.int .i64 x2, .int .i64 y2, .int .i64 e2] 34 (0, 0)) ∧ W.heap[w.heap.size + 1 + 1 + 1]? = some (.cells #[.int .i64 0, .int .i64 0, .int .i64 0, .int .i64 0] 29 (0, 0))) (by refine ⟨?_, ?_, ?_, ?_, ?_⟩ <;> (exact ck)) ?_
 clear de df Qj zb
 clear dg dh di Qk zc
 clear dj dk dl Ql zd
 clear dm dn dq dr Qm ze
 clear hB2
 rintro w3 ⟨hB3, xm, xn, xo, xp⟩
 obtain ⟨dt, du, Qn, Wv⟩ := bk2 xm
 replace xm := Lib.hid xm
 obtain ⟨dv, dw, dx, Qo, Ww⟩ := bk3 xn
 replace xn := Lib.hid xn
 obtain ⟨fa, fb, fc, Qp, Wy⟩ := bk3 xo
 replace xo := Lib.hid xo
 obtain ⟨fd, fe, ff, fh, Qq, Wz⟩ := bk4 xp
 replace xp := Lib.hid xp
 go_upto_region 4 with (first | (have _t := tok4; go_at_call 23; (with_reducible refine ((TP _).out).mono ?_); rintro e w4 ⟨rfl, hb4⟩; clear tok4 _t; have hz4 := hb4.size; (try simp only [sA, sB, sC, sD] at hz4)))
 have hC4 := keepY hb4 xm.out
 have hP4 := keepY hb4 xn.out
 have hQ4 := keepY hb4 xo.out
 have hR4 := keepY hb4 xp.out
 have hB4 := below_via hb4 hB3 hB3.size
 clear hb4 TP
 replace xm := xm.out
 replace xn := xn.out
 replace xo := xo.out
 replace xp := xp.out
 refine chk (fun W => Below w.heap.size w W ∧ W.heap[w.heap.size]? = some (.cells #[.int .i64 A, .int .i64 B] 32 (0, 0)) ∧ W.heap[w.heap.size + 1]? = some (.cells #[.int .i64 x1, .int .i64 y1, .int .i64 e1] 34 (0, 0)) ∧ W.heap[w.heap.size + 1 + 1]? = some (.cells #[.int .i64 x2, .int .i64 y2, .int .i64 e2] 34 (0, 0)) ∧ W.heap[w.heap.size + 1 + 1 + 1]? = some (.cells #[.int .i64 0, .int .i64 0, .int .i64 0, .int .i64 0] 29 (0, 0)) ∧ W.heap[w4.heap.size]? = some (.cells #[.int .i64 s1, .int .i64 s2, .int .i64 s3] 34 (0, 0))) (by refine ⟨?_, ?_, ?_, ?_, ?_, ?_⟩ <;> (exact ck)) ?_
 clear dt du Qn xm
 clear dv dw dx Qo xn
 clear fa fb fc Qp xo
 clear fd fe ff fh Qq xp
 clear hB3
 rintro w5 ⟨hB5, zf, zg, zh, zi, zj⟩
 obtain ⟨fi, fj, Qr, Ua⟩ := bk2 zf
 replace zf := Lib.hid zf
 obtain ⟨fk, fl, fm, Qs, Ub⟩ := bk3 zg
 replace zg := Lib.hid zg
 obtain ⟨fn, fo, fp, Qt, Uc⟩ := bk3 zh
 replace zh := Lib.hid zh
 obtain ⟨fq, ft, fu, fv, Qu, Ud⟩ := bk4 zi
 replace zi := Lib.hid zi
 obtain ⟨fw, ba, bc, Qv, Ue⟩ := bk3 zj
 replace zj := Lib.hid zj
 clear hC4 hP4 hQ4 hR4 hB4
 generalize w4.heap.size = gs at *
 clear w4
 refine wp_drawn_fill (n := 8) 10 37 34 #[.int .i64 0, .int .i64 0, .int .i64 0] (by kernel_rfl) (by kernel_rfl) (by kernel_rfl) ⟨_, rfl, rfl, rfl, fun _ _ => by simp [go_sem]⟩ ⟨_, rfl, rfl, rfl, rfl⟩ (by kernel_rfl) (by kernel_rfl) (by kernel_rfl) ?_
 apply Exists.intro
 refine ⟨?_, ?_⟩
 ·intro W hW
  try (have wq := fun x => xcell hW (w.heap.size) (by go_size) x 0; simp [go_sem, *] at wq)
  try (have ws := fun x => xcell hW (w.heap.size) (by go_size) x 1; simp [go_sem, *] at ws)
  try (have wt := fun x => xcell hW (w.heap.size + 1) (by go_size) x 0; simp [go_sem, *] at wt)
  try (have wu := fun x => xcell hW (w.heap.size + 1) (by go_size) x 1; simp [go_sem, *] at wu)
  try (have wv := fun x => xcell hW (w.heap.size + 1) (by go_size) x 2; simp [go_sem, *] at wv)
  try (have ww := fun x => xcell hW (w.heap.size + 1 + 1) (by go_size) x 0; simp [go_sem, *] at ww)
  try (have wy := fun x => xcell hW (w.heap.size + 1 + 1) (by go_size) x 1; simp [go_sem, *] at wy)
  try (have wz := fun x => xcell hW (w.heap.size + 1 + 1) (by go_size) x 2; simp [go_sem, *] at wz)
  try (have uc := fun x => xcell hW (w.heap.size + 1 + 1 + 1) (by go_size) x 0; simp [go_sem, *] at uc)
  try (have ud := fun x => xcell hW (w.heap.size + 1 + 1 + 1) (by go_size) x 1; simp [go_sem, *] at ud)
  try (have ue := fun x => xcell hW (w.heap.size + 1 + 1 + 1) (by go_size) x 2; simp [go_sem, *] at ue)
  try (have uf := fun x => xcell hW (w.heap.size + 1 + 1 + 1) (by go_size) x 3; simp [go_sem, *] at uf)
  simp only [List.take_succ_cons, List.take_zero]
  repeat (go_big_quiet_step ((first | (go_at_call 24; (with_reducible exact draw_of _ ((TM _).out))) | (go_at_call 23; (with_reducible exact draw_of _ ((TQ _).out))))))
  exact wpQuiet_nil rfl
 refine ⟨_, rfl, rfl, by simp [Value.oneCell'], ?_⟩
 intro g6 w6 hb6 hg6 hk6
 try simp only [sA, sB, sC, sD] at hg6
 try have Jv : w.heap.size < g6 := by omega
 try have Jw : w.heap.size + 1 < g6 := by omega
 try have Jx : w.heap.size + 1 + 1 < g6 := by omega
 try have Jy : w.heap.size + 1 + 1 + 1 < g6 := by omega
 simp only [List.drop_succ_cons, List.drop_zero, Act.put, List.setIfInBounds_toArray, List.set_cons_succ, List.set_cons_zero]
 have hz6 := hb6.size
 (try simp only [sA, sB, sC, sD] at hz6)
 (try (obtain ⟨kq, ny⟩ := cfAt hb6 (w.heap.size); have ug := kq 0; have uh := kq 1; clear kq; simp [go_sem, *] at ug uh ny))
 (try have Jz : w.heap.size < w6.heap.size := by omega)
 (try (obtain ⟨kq, nz⟩ := cfAt hb6 (w.heap.size + 1); have ui := kq 0; have uj := kq 1; have uk := kq 2; clear kq; simp [go_sem, *] at ui uj uk nz))
 (try have Ya : w.heap.size + 1 < w6.heap.size := by omega)
 (try (obtain ⟨kq, ma⟩ := cfAt hb6 (w.heap.size + 1 + 1); have ul := kq 0; have um := kq 1; have un := kq 2; clear kq; simp [go_sem, *] at ul um un ma))
 (try have Yb : w.heap.size + 1 + 1 < w6.heap.size := by omega)
 (try (obtain ⟨kq, mb⟩ := cfAt hb6 (w.heap.size + 1 + 1 + 1); have uo := kq 0; have uq := kq 1; have ur := kq 2; have us := kq 3; clear kq; simp [go_sem, *] at uo uq ur us mb))
 (try have Yc : w.heap.size + 1 + 1 + 1 < w6.heap.size := by omega)
 (try clear Xn Xo Yd)
 (try clear Ye)
 (try clear Xp Xq Xr Yf)
 (try clear Yg)
 (try clear Xs Xt Xu Yh)
 (try clear Yi)
 (try clear Xv Xw Xx Xy Yj)
 (try clear Yk)
 (try clear Xz Za Yl)
 (try clear Ym)
 (try clear Zb Zc Zd Yn)
 (try clear Yo)
 (try clear Ze Zf Zg Yp)
 (try clear Yq)
 (try clear Zh Zi Zj Zk Yr)
 (try clear Ys)
 (try clear Zl Zm Yt)
 (try clear Yu)
 (try clear Zn Zo Zp Yv)
 (try clear Yw)
 (try clear Zq Zr Zs Yx)
 (try clear Yy)
 (try clear Zt Zu Zv Zw Yz)
 (try clear Va)
 (try clear Zx Zy Vb)
 (try clear Vc)
 (try clear Zz Ja Jb Vd)
 (try clear Ve)
 (try clear Jc Jd Je Vf)
 (try clear Vg)
 (try clear Jf Jg Jh Ji Vh)
 (try clear Vi)
 have kg6 := blk_cell hk6
 have fg6 := blk_frozen hk6
 have lg6 := blk_lt hk6
 have zk := (hb6.block (w.heap.size) (blk_lt' zf.out)).trans zf.out
 clear fi fj Qr zf
 obtain ⟨bd, bf, Qw, Uf⟩ := bk2 zk
 replace zk := Lib.hid zk
 have zm := (hb6.block (w.heap.size + 1) (blk_lt' zg.out)).trans zg.out
 clear fk fl fm Qs zg
 obtain ⟨bg, bh, bi, Qx, Ug⟩ := bk3 zm
 replace zm := Lib.hid zm
 have zn := (hb6.block (w.heap.size + 1 + 1) (blk_lt' zh.out)).trans zh.out
 clear fn fo fp Qt zh
 obtain ⟨bj, bk, bm, Qy, Uh⟩ := bk3 zn
 replace zn := Lib.hid zn
 have zo := (hb6.block (w.heap.size + 1 + 1 + 1) (blk_lt' zi.out)).trans zi.out
 clear fq ft fu fv Qu zi
 obtain ⟨bn, br, bu, bw, Qz, Ui⟩ := bk4 zo
 replace zo := Lib.hid zo
 have zp := (hb6.block (gs) (blk_lt' zj.out)).trans zj.out
 clear fw ba bc Qv zj
 obtain ⟨bx, cd, ce, Xa, Uj⟩ := bk3 zp
 replace zp := Lib.hid zp
 have hB6 : Below w.heap.size w w6 := below_via hb6 (by assumption) (by go_size)
 clear TM TQ
 go_upto_region 5 with fail
 replace zk := zk.out
 replace zm := zm.out
 replace zn := zn.out
 replace zo := zo.out
 replace zp := zp.out
 refine chk (fun W => Below w.heap.size w W ∧ W.heap[w.heap.size]? = some (.cells #[.int .i64 A, .int .i64 B] 32 (0, 0)) ∧ W.heap[w.heap.size + 1]? = some (.cells #[.int .i64 x1, .int .i64 y1, .int .i64 e1] 34 (0, 0)) ∧ W.heap[w.heap.size + 1 + 1]? = some (.cells #[.int .i64 x2, .int .i64 y2, .int .i64 e2] 34 (0, 0)) ∧ W.heap[w.heap.size + 1 + 1 + 1]? = some (.cells #[.int .i64 0, .int .i64 0, .int .i64 0, .int .i64 0] 29 (0, 0)) ∧ W.heap[gs]? = some (.cells #[.int .i64 s1, .int .i64 s2, .int .i64 s3] 34 (0, 0)) ∧ W.heap[g6]? = some (.cells #[.int .i64 t1, .int .i64 t2, .int .i64 t3] 34 (0, 0))) (by refine ⟨?_, ?_, ?_, ?_, ?_, ?_, ?_⟩ <;> (exact ck)) ?_
 clear bd bf Qw zk
 clear bg bh bi Qx zm
 clear bj bk bm Qy zn
 clear bn br bu bw Qz zo
 clear bx cd ce Xa zp
 clear hB6
 rintro w7 ⟨hB7, zq, zr, zt, qv, zu, zv⟩
 obtain ⟨cf, cg, Xb, Uk⟩ := bk2 zq
 replace zq := Lib.hid zq
 obtain ⟨ch, ci, cj, Xc, Ul⟩ := bk3 zr
 replace zr := Lib.hid zr
 obtain ⟨cl, cn, co, Xd, Um⟩ := bk3 zt
 replace zt := Lib.hid zt
 obtain ⟨ye, yf, yg, yh, Xe, Un⟩ := bk4 qv
 replace qv := Lib.hid qv
 obtain ⟨cp, cq, cr, Xf, Uo⟩ := bk3 zu
 replace zu := Lib.hid zu
 obtain ⟨ct, cu, cw, Xg, Up⟩ := bk3 zv
 replace zv := Lib.hid zv
 clear hk6
 generalize g6 = gd at *
 cases so
 ·have hz := HP.out
  rw [Bool.false_and, if_neg (by simp)] at hz
  unfold ivZ at hz
  obtain ⟨rfl, rfl, rfl, rfl, rfl⟩ : r1 = 0 ∧ r2 = 0 ∧ r3 = 0 ∧ r4 = 0 ∧ r5 = false := by simpa using hz
  clear hz HP
  go_upto_region 6 with fail
  iterate 40 (first | (with_reducible show bodyPost _ _ _ _ _ _) | (with_reducible refine wp_ret ?_) | go_values | go_skip | go_guarded | go_step | go_upon | go_back | skip)
  refine bodyPost_ret (v := .tuple #[.agg #[.int .i64 0, .int .i64 0, .int .i64 0, .int .i64 0], .bool false]) (by simp [results, Tryz.results14, go_sem, ye, yf, yg, yh]) rfl ⟨rfl, ?_⟩
  have HO := qv.out
  (exact ck)
 cases to'
 ·have hz := HP.out
  rw [Bool.and_false, if_neg (by simp)] at hz
  unfold ivZ at hz
  obtain ⟨rfl, rfl, rfl, rfl, rfl⟩ : r1 = 0 ∧ r2 = 0 ∧ r3 = 0 ∧ r4 = 0 ∧ r5 = false := by simpa using hz
  clear hz HP
  go_upto_region 6 with fail
  iterate 40 (first | (with_reducible show bodyPost _ _ _ _ _ _) | (with_reducible refine wp_ret ?_) | go_values | go_skip | go_guarded | go_step | go_upon | go_back | skip)
  refine bodyPost_ret (v := .tuple #[.agg #[.int .i64 0, .int .i64 0, .int .i64 0, .int .i64 0], .bool false]) (by simp [results, Tryz.results14, go_sem, ye, yf, yg, yh]) rfl ⟨rfl, ?_⟩
  have HO := qv.out
  (exact ck)
 have hsp : pqB A B s1 s2 s3 = true := by
  rcases OK1.out with h | h
  ·exact pq_of H1.out h.2
  ·simp at h
 have htp : pqB A B t1 t2 t3 = true := by
  rcases OK2.out with h | h
  ·exact pq_of H1.out h.2
  ·simp at h
 have TH := fun W : World => Lib.hid (hpHeight_any W hsp)
 have TK := fun W : World => Lib.hid (hpHeight_any W htp)
 obtain ⟨i1, i2, i3, i4, i5, hgi⟩ := i5_open (hgV A B s1 s3)
 obtain ⟨j1, j2, j3, j4, j5, hgj⟩ := i5_open (hgV A B t1 t3)
 rw [hgi] at TH
 rw [hgj] at TK
 simp only at TH TK
 have HGI := Lib.hid hgi
 have HGJ := Lib.hid hgj
 have hpv := HP.out
 rw [Bool.and_self, if_pos rfl] at hpv
 have HPV := Lib.hid hpv
 clear hgi hgj hsp htp hpv HP OK1 OK2
 go_upto_region 7 with fail
 go_upto_region 8 with (first | (have _t := tok9; go_at_call 25; (with_reducible refine ((TH _).out).mono ?_); rintro e w9 ⟨rfl, hb9⟩; clear tok9 _t; have hz9 := hb9.size; (try simp only [sA, sB, sC, sD] at hz9)))
 have zw := (hb9.block (w.heap.size) (blk_lt' zq.out)).trans zq.out
 clear cf cg Xb zq
 obtain ⟨cx, cy, Xh, Uq⟩ := bk2 zw
 replace zw := Lib.hid zw
 have zx := (hb9.block (w.heap.size + 1) (blk_lt' zr.out)).trans zr.out
 clear ch ci cj Xc zr
 obtain ⟨cz, nc, nd, Xi, Ur⟩ := bk3 zx
 replace zx := Lib.hid zx
 have zy := (hb9.block (w.heap.size + 1 + 1) (blk_lt' zt.out)).trans zt.out
 clear cl cn co Xd zt
 obtain ⟨nf, ng, nh, Xj, Us⟩ := bk3 zy
 replace zy := Lib.hid zy
 have ja := (hb9.block (w.heap.size + 1 + 1 + 1) (blk_lt' qv.out)).trans qv.out
 clear ye yf yg yh Xe qv
 obtain ⟨ni, nj, nk, nl, Xk, Ut⟩ := bk4 ja
 replace ja := Lib.hid ja
 have jb := (hb9.block (gs) (blk_lt' zu.out)).trans zu.out
 clear cp cq cr Xf zu
 obtain ⟨nm, np, nr, Xl, Uu⟩ := bk3 jb
 replace jb := Lib.hid jb
 have jc := (hb9.block (gd) (blk_lt' zv.out)).trans zv.out
 clear ct cu cw Xg zv
 obtain ⟨nt, nu, nx, Xm, Uv⟩ := bk3 jc
 replace jc := Lib.hid jc
 have hB9 : Below w.heap.size w w9 := below_via hb9 (by assumption) (by go_size)
 clear TH
 replace zw := zw.out
 replace zx := zx.out
 replace zy := zy.out
 replace ja := ja.out
 replace jb := jb.out
 replace jc := jc.out
 refine chk (fun W => Below w.heap.size w W ∧ W.heap[w.heap.size]? = some (.cells #[.int .i64 A, .int .i64 B] 32 (0, 0)) ∧ W.heap[w.heap.size + 1]? = some (.cells #[.int .i64 x1, .int .i64 y1, .int .i64 e1] 34 (0, 0)) ∧ W.heap[w.heap.size + 1 + 1]? = some (.cells #[.int .i64 x2, .int .i64 y2, .int .i64 e2] 34 (0, 0)) ∧ W.heap[w.heap.size + 1 + 1 + 1]? = some (.cells #[.int .i64 0, .int .i64 0, .int .i64 0, .int .i64 0] 29 (0, 0)) ∧ W.heap[gs]? = some (.cells #[.int .i64 s1, .int .i64 s2, .int .i64 s3] 34 (0, 0)) ∧ W.heap[gd]? = some (.cells #[.int .i64 t1, .int .i64 t2, .int .i64 t3] 34 (0, 0)) ∧ W.heap[w9.heap.size]? = some (.cells #[.int .i64 i1, .int .i64 i2, .int .i64 i3, .int .i64 i4] 29 (0, 0))) (by refine ⟨?_, ?_, ?_, ?_, ?_, ?_, ?_, ?_⟩ <;> (exact ck)) ?_
 clear cx cy Xh zw
 clear cz nc nd Xi zx
 clear nf ng nh Xj zy
 clear ni nj nk nl Xk ja
 clear nm np nr Xl jb
 clear nt nu nx Xm jc
 clear hB9
 rintro w10 ⟨hB10, qw, qx, qy, qz, xc, xd, xe⟩
 obtain ⟨ut, uw, mc, Vj⟩ := bk2 qw
 replace qw := Lib.hid qw
 obtain ⟨uy, gc, ge, me, Vk⟩ := bk3 qx
 replace qx := Lib.hid qx
 obtain ⟨gh, gk, gm, mf, Vl⟩ := bk3 qy
 replace qy := Lib.hid qy
 obtain ⟨gn, gr, gt, gu, mg, Vm⟩ := bk4 qz
 replace qz := Lib.hid qz
 obtain ⟨gy, ka, kb, mh, Vn⟩ := bk3 xc
 replace xc := Lib.hid xc
 obtain ⟨kc, kd, ke, mi, Vo⟩ := bk3 xd
 replace xd := Lib.hid xd
 obtain ⟨kf, kh, ki, kj, mj, Vp⟩ := bk4 xe
 replace xe := Lib.hid xe
 generalize w9.heap.size = gi at *
 try clear hb9
 go_upto_region 9 with (first | (have _t := tok11; go_at_call 25; (with_reducible refine ((TK _).out).mono ?_); rintro e w11 ⟨rfl, hb11⟩; clear tok11 _t; have hz11 := hb11.size; (try simp only [sA, sB, sC, sD] at hz11)))
 have xf := (hb11.block (w.heap.size) (blk_lt' qw.out)).trans qw.out
 clear ut uw mc qw
 obtain ⟨kl, km, ml, Vq⟩ := bk2 xf
 replace xf := Lib.hid xf
 have xg := (hb11.block (w.heap.size + 1) (blk_lt' qx.out)).trans qx.out
 clear uy gc ge me qx
 obtain ⟨kn, ko, kp, mn, Vr⟩ := bk3 xg
 replace xg := Lib.hid xg
 have xh := (hb11.block (w.heap.size + 1 + 1) (blk_lt' qy.out)).trans qy.out
 clear gh gk gm mf qy
 obtain ⟨kr, ks, kt, mo, Vs⟩ := bk3 xh
 replace xh := Lib.hid xh
 have xi := (hb11.block (w.heap.size + 1 + 1 + 1) (blk_lt' qz.out)).trans qz.out
 clear gn gr gt gu mg qz
 obtain ⟨ku, kw, kx, ky, mp, Vt⟩ := bk4 xi
 replace xi := Lib.hid xi
 have xj := (hb11.block (gs) (blk_lt' xc.out)).trans xc.out
 clear gy ka kb mh xc
 obtain ⟨kz, pc, pd, mq, Vu⟩ := bk3 xj
 replace xj := Lib.hid xj
 have xk := (hb11.block (gd) (blk_lt' xd.out)).trans xd.out
 clear kc kd ke mi xd
 obtain ⟨pe, pf, pg, mr, Vv⟩ := bk3 xk
 replace xk := Lib.hid xk
 have xl := (hb11.block (gi) (blk_lt' xe.out)).trans xe.out
 clear kf kh ki kj mj xe
 obtain ⟨ph, pi, pj, pk, mu, Vw⟩ := bk4 xl
 replace xl := Lib.hid xl
 have hB11 : Below w.heap.size w w11 := below_via hb11 (by assumption) (by go_size)
 clear TK
 replace xf := xf.out
 replace xg := xg.out
 replace xh := xh.out
 replace xi := xi.out
 replace xj := xj.out
 replace xk := xk.out
 replace xl := xl.out
 refine chk (fun W => Below w.heap.size w W ∧ W.heap[w.heap.size]? = some (.cells #[.int .i64 A, .int .i64 B] 32 (0, 0)) ∧ W.heap[w.heap.size + 1]? = some (.cells #[.int .i64 x1, .int .i64 y1, .int .i64 e1] 34 (0, 0)) ∧ W.heap[w.heap.size + 1 + 1]? = some (.cells #[.int .i64 x2, .int .i64 y2, .int .i64 e2] 34 (0, 0)) ∧ W.heap[w.heap.size + 1 + 1 + 1]? = some (.cells #[.int .i64 0, .int .i64 0, .int .i64 0, .int .i64 0] 29 (0, 0)) ∧ W.heap[gs]? = some (.cells #[.int .i64 s1, .int .i64 s2, .int .i64 s3] 34 (0, 0)) ∧ W.heap[gd]? = some (.cells #[.int .i64 t1, .int .i64 t2, .int .i64 t3] 34 (0, 0)) ∧ W.heap[gi]? = some (.cells #[.int .i64 i1, .int .i64 i2, .int .i64 i3, .int .i64 i4] 29 (0, 0)) ∧ W.heap[w11.heap.size]? = some (.cells #[.int .i64 j1, .int .i64 j2, .int .i64 j3, .int .i64 j4] 29 (0, 0))) (by refine ⟨?_, ?_, ?_, ?_, ?_, ?_, ?_, ?_, ?_⟩ <;> (exact ck)) ?_
 clear kl km ml xf
 clear kn ko kp mn xg
 clear kr ks kt mo xh
 clear ku kw kx ky mp xi
 clear kz pc pd mq xj
 clear pe pf pg mr xk
 clear ph pi pj pk mu xl
 clear hB11
 rintro w12 ⟨hB12, ql, qm, qn, qk, qo, qq, qr, qt⟩
 obtain ⟨yi, yj, wd, Vx⟩ := bk2 ql
 replace ql := Lib.hid ql
 obtain ⟨yk, yl, ym, wg, Vy⟩ := bk3 qm
 replace qm := Lib.hid qm
 obtain ⟨yn, yo, yp, wi, Vz⟩ := bk3 qn
 replace qn := Lib.hid qn
 obtain ⟨xq, xr, xt, xu, wj, Wa⟩ := bk4 qk
 replace qk := Lib.hid qk
 obtain ⟨yq, yr, yt, wk, Wb⟩ := bk3 qo
 replace qo := Lib.hid qo
 obtain ⟨yu, yv, yw, wl, Wc⟩ := bk3 qq
 replace qq := Lib.hid qq
 obtain ⟨yx, yz, va, vb, wm, Wd⟩ := bk4 qr
 replace qr := Lib.hid qr
 obtain ⟨vc, vd, vf, vg, wn, We⟩ := bk4 qt
 replace qt := Lib.hid qt
 generalize w11.heap.size = gj at *
 try clear hb11
 unfold gpH at HPV
 have hbi : i5 = BK A B s1 s3 := by
  have h := HGI.out; unfold hgV mk5 ivZ at h
  by_cases hk : BK A B s1 s3 = true
  ·rw [if_pos hk] at h; simp only [Prod.mk.injEq] at h; rw [hk]; exact h.2.2.2.2.symm
  ·rw [if_neg hk] at h; simp only [Prod.mk.injEq] at h; rw [← h.2.2.2.2]; simpa using hk
 have hbj : j5 = BK A B t1 t3 := by
  have h := HGJ.out; unfold hgV mk5 ivZ at h
  by_cases hk : BK A B t1 t3 = true
  ·rw [if_pos hk] at h; simp only [Prod.mk.injEq] at h; rw [hk]; exact h.2.2.2.2.symm
  ·rw [if_neg hk] at h; simp only [Prod.mk.injEq] at h; rw [← h.2.2.2.2]; simpa using hk
 rw [← hbi, ← hbj] at HPV
 have HBI := Lib.hid hbi
 have HBJ := Lib.hid hbj
 clear hbi hbj
 cases i5
 ·have hz := HPV.out
  rw [Bool.false_and, if_neg (by simp)] at hz
  unfold ivZ at hz
  obtain ⟨rfl, rfl, rfl, rfl, rfl⟩ : r1 = 0 ∧ r2 = 0 ∧ r3 = 0 ∧ r4 = 0 ∧ r5 = false := by simpa using hz
  clear hz HPV
  go_upto_region 10 with fail
  iterate 40 (first | (with_reducible show bodyPost _ _ _ _ _ _) | (with_reducible refine wp_ret ?_) | go_values | go_skip | go_guarded | go_step | go_upon | go_back | skip)
  refine bodyPost_ret (v := .tuple #[.agg #[.int .i64 0, .int .i64 0, .int .i64 0, .int .i64 0], .bool false]) (by simp [results, Tryz.results14, go_sem, xq, xr, xt, xu]) rfl ⟨rfl, ?_⟩
  have HO := qk.out
  (exact ck)
 cases j5
 ·have hz := HPV.out
  rw [Bool.and_false, if_neg (by simp)] at hz
  unfold ivZ at hz
  obtain ⟨rfl, rfl, rfl, rfl, rfl⟩ : r1 = 0 ∧ r2 = 0 ∧ r3 = 0 ∧ r4 = 0 ∧ r5 = false := by simpa using hz
  clear hz HPV
  go_upto_region 10 with fail
  iterate 40 (first | (with_reducible show bodyPost _ _ _ _ _ _) | (with_reducible refine wp_ret ?_) | go_values | go_skip | go_guarded | go_step | go_upon | go_back | skip)
  refine bodyPost_ret (v := .tuple #[.agg #[.int .i64 0, .int .i64 0, .int .i64 0, .int .i64 0], .bool false]) (by simp [results, Tryz.results14, go_sem, xq, xr, xt, xu]) rfl ⟨rfl, ?_⟩
  have HO := qk.out
  (exact ck)
 have hki := HBI.out.symm
 have hkj := HBJ.out.symm
 have gi1 := HGI.out
 have gj1 := HGJ.out
 unfold hgV mk5 at gi1 gj1
 rw [hki, if_pos rfl] at gi1
 rw [hkj, if_pos rfl] at gj1
 simp only [Prod.mk.injEq, and_true] at gi1 gj1
 obtain ⟨hi1, hi2, hi3, hi4⟩ := gi1
 obtain ⟨hj1, hj2, hj3, hj4⟩ := gj1
 obtain ⟨g1, g2, g3⟩ := iv_read (BK_valid hki)
 obtain ⟨g4, g5, g6⟩ := iv_read (BK_valid hkj)
 have TV := fun W : World => Lib.hid (ivAdd_any W g1 g4)
 rw [g2, g3, g5, g6, hi1, hi2, hi3, hi4, hj1, hj2, hj3, hj4] at TV
 have hpv := HPV.out
 rw [Bool.and_self, if_pos rfl] at hpv
 clear hki hkj HBI HBJ HGI HGJ g1 g2 g3 g4 g5 g6 hi1 hi2 hi3 hi4 hj1 hj2 hj3 hj4 HPV
 generalize BL A B s1 s3 + BL A B t1 t3 = lo at *
 generalize BH A B s1 s3 + BH A B t1 t3 = hi at *
 simp only [opV, if_pos rfl] at TV
 go_upto_region 11 with fail
 cases hv : validB lo hi
 ·rw [hv, if_neg (by simp)] at hpv
  unfold ivZ at hpv
  obtain ⟨rfl, rfl, rfl, rfl, rfl⟩ : r1 = 0 ∧ r2 = 0 ∧ r3 = 0 ∧ r4 = 0 ∧ r5 = false := by simpa using hpv
  rw [ivV_no (by simp [hv])] at TV
  clear hv hpv
  go_upto_region 12 with (first | (have _t := tok13; go_at_call 26; (with_reducible refine ((TV _).out).mono ?_); rintro e w13 ⟨rfl, hb13⟩; clear tok13 _t; have hz13 := hb13.size; (try simp only [sA, sB, sC, sD] at hz13)))
  have qc := (hb13.block (w.heap.size) (blk_lt' ql.out)).trans ql.out
  clear yi yj wd ql
  obtain ⟨jd, je, vh, mv⟩ := bk2 qc
  replace qc := Lib.hid qc
  have qd := (hb13.block (w.heap.size + 1) (blk_lt' qm.out)).trans qm.out
  clear yk yl ym wg qm
  obtain ⟨jf, jg, jh, vi, mw⟩ := bk3 qd
  replace qd := Lib.hid qd
  have qe := (hb13.block (w.heap.size + 1 + 1) (blk_lt' qn.out)).trans qn.out
  clear yn yo yp wi qn
  obtain ⟨ji, jj, jk, vj, mx⟩ := bk3 qe
  replace qe := Lib.hid qe
  have qf := (hb13.block (w.heap.size + 1 + 1 + 1) (blk_lt' qk.out)).trans qk.out
  clear xq xr xt xu wj qk
  obtain ⟨jl, jm, jn, jo, vk, my⟩ := bk4 qf
  replace qf := Lib.hid qf
  have qg := (hb13.block (gs) (blk_lt' qo.out)).trans qo.out
  clear yq yr yt wk qo
  obtain ⟨jp, jq, jr, vm, mz⟩ := bk3 qg
  replace qg := Lib.hid qg
  have qh := (hb13.block (gd) (blk_lt' qq.out)).trans qq.out
  clear yu yv yw wl qq
  obtain ⟨jt, ju, jv, vn, Qa⟩ := bk3 qh
  replace qh := Lib.hid qh
  have qi := (hb13.block (gi) (blk_lt' qr.out)).trans qr.out
  clear yx yz va vb wm qr
  obtain ⟨jw, jx, jy, jz, vo, Qb⟩ := bk4 qi
  replace qi := Lib.hid qi
  have qj := (hb13.block (gj) (blk_lt' qt.out)).trans qt.out
  clear vc vd vf vg wn qt
  obtain ⟨ya, yb, yc, yd, vp, Qc⟩ := bk4 qj
  replace qj := Lib.hid qj
  have hB13 : Below w.heap.size w w13 := below_via hb13 (by assumption) (by go_size)
  replace qc := qc.out
  replace qd := qd.out
  replace qe := qe.out
  replace qf := qf.out
  replace qg := qg.out
  replace qh := qh.out
  replace qi := qi.out
  replace qj := qj.out
  refine chk (fun W => Below w.heap.size w W ∧ W.heap[w.heap.size + 1 + 1 + 1]? = some (.cells #[.int .i64 0, .int .i64 0, .int .i64 0, .int .i64 0] 29 (0, 0))) (by refine ⟨?_, ?_⟩ <;> (exact ck)) ?_
  clear jd je vh qc
  clear jf jg jh vi qd
  clear ji jj jk vj qe
  clear jl jm jn jo vk qf
  clear jp jq jr vm qg
  clear jt ju jv vn qh
  clear jw jx jy jz vo qi
  clear ya yb yc yd vp qj
  clear hB13
  rintro w14 ⟨hB14, qu⟩
  obtain ⟨vq, vr, vt, vu, Qd, Qe⟩ := bk4 qu
  replace qu := Lib.hid qu
  go_upto_region 13 with fail
  iterate 40 (first | (with_reducible show bodyPost _ _ _ _ _ _) | (with_reducible refine wp_ret ?_) | go_values | go_skip | go_guarded | go_step | go_upon | go_back | skip)
  refine bodyPost_ret (v := .tuple #[.agg #[.int .i64 0, .int .i64 0, .int .i64 0, .int .i64 0], .bool false]) (by simp [results, Tryz.results14, go_sem, vq, vr, vt, vu]) rfl ⟨rfl, ?_⟩
  have HO := qu.out
  (exact ck)
 rw [hv, if_pos rfl] at hpv
 rw [ivV_yes hv] at TV
 have TL0 := fun W (hp : Px W (some ⟨W.heap.size - 1, 0, none⟩) 4 4 [x1, y1, e1, x2, y2, e2, x1, y1, e1, x2, y2, e2]) => hpLess_any W hp hv (four_pts H1.out H2.out)
 rw [← hpv] at TL0
 simp only at TL0
 clear hpv hv H1 H2
 generalize mkN lo 4096 = v1 at *
 generalize mkD lo 4096 = v2 at *
 generalize mkN hi 4096 = v3 at *
 generalize mkD hi 4096 = v4 at *
 go_upto_region 12 with (first | (have _t := tok13; go_at_call 26; (with_reducible refine ((TV _).out).mono ?_); rintro e w13 ⟨rfl, hb13⟩; clear tok13 _t; have hz13 := hb13.size; (try simp only [sA, sB, sC, sD] at hz13)))
 have qc := (hb13.block (w.heap.size) (blk_lt' ql.out)).trans ql.out
 clear yi yj wd ql
 obtain ⟨jd, je, vh, mv⟩ := bk2 qc
 replace qc := Lib.hid qc
 have qd := (hb13.block (w.heap.size + 1) (blk_lt' qm.out)).trans qm.out
 clear yk yl ym wg qm
 obtain ⟨jf, jg, jh, vi, mw⟩ := bk3 qd
 replace qd := Lib.hid qd
 have qe := (hb13.block (w.heap.size + 1 + 1) (blk_lt' qn.out)).trans qn.out
 clear yn yo yp wi qn
 obtain ⟨ji, jj, jk, vj, mx⟩ := bk3 qe
 replace qe := Lib.hid qe
 have qf := (hb13.block (w.heap.size + 1 + 1 + 1) (blk_lt' qk.out)).trans qk.out
 clear xq xr xt xu wj qk
 obtain ⟨jl, jm, jn, jo, vk, my⟩ := bk4 qf
 replace qf := Lib.hid qf
 have qg := (hb13.block (gs) (blk_lt' qo.out)).trans qo.out
 clear yq yr yt wk qo
 obtain ⟨jp, jq, jr, vm, mz⟩ := bk3 qg
 replace qg := Lib.hid qg
 have qh := (hb13.block (gd) (blk_lt' qq.out)).trans qq.out
 clear yu yv yw wl qq
 obtain ⟨jt, ju, jv, vn, Qa⟩ := bk3 qh
 replace qh := Lib.hid qh
 have qi := (hb13.block (gi) (blk_lt' qr.out)).trans qr.out
 clear yx yz va vb wm qr
 obtain ⟨jw, jx, jy, jz, vo, Qb⟩ := bk4 qi
 replace qi := Lib.hid qi
 have qj := (hb13.block (gj) (blk_lt' qt.out)).trans qt.out
 clear vc vd vf vg wn qt
 obtain ⟨ya, yb, yc, yd, vp, Qc⟩ := bk4 qj
 replace qj := Lib.hid qj
 have hB13 : Below w.heap.size w w13 := below_via hb13 (by assumption) (by go_size)
 clear TV
 replace qc := qc.out
 replace qd := qd.out
 replace qe := qe.out
 replace qf := qf.out
 replace qg := qg.out
 replace qh := qh.out
 replace qi := qi.out
 replace qj := qj.out
 refine chk (fun W => Below w.heap.size w W ∧ W.heap[w.heap.size]? = some (.cells #[.int .i64 A, .int .i64 B] 32 (0, 0)) ∧ W.heap[w.heap.size + 1]? = some (.cells #[.int .i64 x1, .int .i64 y1, .int .i64 e1] 34 (0, 0)) ∧ W.heap[w.heap.size + 1 + 1]? = some (.cells #[.int .i64 x2, .int .i64 y2, .int .i64 e2] 34 (0, 0)) ∧ W.heap[w.heap.size + 1 + 1 + 1]? = some (.cells #[.int .i64 0, .int .i64 0, .int .i64 0, .int .i64 0] 29 (0, 0)) ∧ W.heap[w13.heap.size]? = some (.cells #[.int .i64 v1, .int .i64 v2, .int .i64 v3, .int .i64 v4] 29 (0, 0))) (by refine ⟨?_, ?_, ?_, ?_, ?_, ?_⟩ <;> (exact ck)) ?_
 clear jd je vh qc
 clear jf jg jh vi qd
 clear ji jj jk vj qe
 clear jl jm jn jo vk qf
 clear jp jq jr vm qg
 clear jt ju jv vn qh
 clear jw jx jy jz vo qi
 clear ya yb yc yd vp qj
 clear hB13
 rintro w14 ⟨hB14, vv, vw, vy, qu, wc⟩
 obtain ⟨Jj, Jk, Wf, Wg⟩ := bk2 vv
 replace vv := Lib.hid vv
 obtain ⟨Jl, Jm, Jn, Wh, Wi⟩ := bk3 vw
 replace vw := Lib.hid vw
 obtain ⟨Jo, Jp, Jq, Wj, Wk⟩ := bk3 vy
 replace vy := Lib.hid vy
 obtain ⟨vq, vr, vt, vu, Qd, Qe⟩ := bk4 qu
 replace qu := Lib.hid qu
 obtain ⟨Jr, Js, Jt, Ju, Wl, Wm⟩ := bk4 wc
 replace wc := Lib.hid wc
 generalize w13.heap.size = gv at *
 try clear hb13
 go_upto_region 14 with fail
 have TL := Lib.hid (TL0 (w14.alloc (.cells #[.int .i64 x1, .int .i64 y1, .int .i64 e1, .int .i64 x2, .int .i64 y2, .int .i64 e2, .int .i64 x1, .int .i64 y1, .int .i64 e1, .int .i64 x2, .int .i64 y2, .int .i64 e2] 34)) (by
  have hq := heap_alloc_new w14 (.cells #[.int .i64 x1, .int .i64 y1, .int .i64 e1, .int .i64 x2, .int .i64 y2, .int .i64 e2, .int .i64 x1, .int .i64 y1, .int .i64 e1, .int .i64 x2, .int .i64 y2, .int .i64 e2] 34)
  simp only [World.size_alloc, Nat.add_sub_cancel]
  exact Px.of_row (zs := [x1, y1, e1, x2, y2, e2, x1, y1, e1, x2, y2, e2]) hq rfl (by unfold maxLen; omega)))
 simp only [World.size_alloc, Nat.add_sub_cancel] at TL
 clear TL0
 have hR5 := bx_old qu.out (.cells #[.int .i64 x1, .int .i64 y1, .int .i64 e1, .int .i64 x2, .int .i64 y2, .int .i64 e2, .int .i64 x1, .int .i64 y1, .int .i64 e1, .int .i64 x2, .int .i64 y2, .int .i64 e2] 34)
 go_wp2_with fail
 (first | (have _t := tok15; go_at_call 27; (with_reducible refine ((TL).out).mono ?_); rintro e w15 ⟨rfl, hb15⟩; clear tok15 _t; have hz15 := hb15.size; (try simp only [sA, sB, sC, sD] at hz15)))
 have hbw6 : Below w.heap.size w w15 := below_via (w1 := w14.alloc (.cells #[.int .i64 x1, .int .i64 y1, .int .i64 e1, .int .i64 x2, .int .i64 y2, .int .i64 e2, .int .i64 x1, .int .i64 y1, .int .i64 e1, .int .i64 x2, .int .i64 y2, .int .i64 e2] 34)) (by simpa using hb15) (hB14.alloc hB14.size _) (by have := hB14.size; simp; omega)
 have hRz := keepY (W := w14.alloc (.cells #[.int .i64 x1, .int .i64 y1, .int .i64 e1, .int .i64 x2, .int .i64 y2, .int .i64 e2, .int .i64 x1, .int .i64 y1, .int .i64 e1, .int .i64 x2, .int .i64 y2, .int .i64 e2] 34)) (by simpa using hb15) hR5
 have z0 : w15.cell? ⟨w.heap.size + 1 + 1 + 1, 0, none⟩ = some (.int .i64 0) := blk_cell hRz 0
 have z1 : w15.cell? ⟨w.heap.size + 1 + 1 + 1, 1, none⟩ = some (.int .i64 0) := blk_cell hRz 1
 have z2 : w15.cell? ⟨w.heap.size + 1 + 1 + 1, 2, none⟩ = some (.int .i64 0) := blk_cell hRz 2
 have z3 : w15.cell? ⟨w.heap.size + 1 + 1 + 1, 3, none⟩ = some (.int .i64 0) := blk_cell hRz 3
 have fz := fun o => blk_frozen hRz o
 have lz := blk_lt' hRz
 dsimp only
 iterate 40 (first | (with_reducible show bodyPost _ _ _ _ _ _) | (with_reducible refine wp_ret ?_) | go_values | go_skip | go_guarded | go_step | go_upon | go_back | skip)
 refine bodyPost_ret (v := .tuple #[.agg #[.int .i64 r1, .int .i64 r2, .int .i64 r3, .int .i64 r4], .bool r5]) (by simp [results, Tryz.results14, go_sem, z0, z1, z2, z3]) rfl ⟨rfl, ?_⟩
 exact bel
end
end Go.Proofs.YtnkmgpmehkholaaGreat
