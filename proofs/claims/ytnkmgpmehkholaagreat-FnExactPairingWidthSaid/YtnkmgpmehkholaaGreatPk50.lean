/- Lemmas and contracts of functions. No condition. -/
import Derived.Test.YtnkmgpmehkholaaGreatPk19
import Derived.Test.YtnkmgpmehkholaaGreatPk26
import Derived.Test.YtnkmgpmehkholaaGreatPk48
namespace Go.Proofs.YtnkmgpmehkholaaGreat
open Go.RowKit
set_option linter.unusedVariables false
set_option maxHeartbeats 4000000
set_option maxRecDepth 20000
set_option linter.unusedSimpArgs false
attribute [local go_sem] openAt openUpon
theorem keepY {W V : World} {b : Nat} {X : Obj} (h : Below W.heap.size W V) (e : W.heap[b]? = some X) : V.heap[b]? = some X := (h.block b (Array.getElem?_eq_some_iff.1 e).1).trans e
theorem pq_pt {A B x y e : Int} (h : pqB A B x y e = true) : ptB A B x y e = true := by unfold pqB at h; rw [Bool.and_eq_true] at h; exact h.2
theorem pq_of {A B x y e x2 y2 e2 : Int} (h : pqB A B x y e = true) (h2 : ptB A B x2 y2 e2 = true) : pqB A B x2 y2 e2 = true := by unfold pqB at h ⊢; rw [Bool.and_eq_true] at h ⊢; exact ⟨h.1, h2⟩
/-- the pairing of two points -/
noncomputable def prV (A B x1 y1 e1 x2 y2 e2 : Int) : I5 :=
 if ((ptS A x1 y1 e1 x2 y2 e2).2.2.2 && BK A B (ptS A x1 y1 e1 x2 y2 e2).1 (ptS A x1 y1 e1 x2 y2 e2).2.2.1) = true then
  lsF A B [x1, y1, e1, x2, y2, e2] 2 0 (BL A B (ptS A x1 y1 e1 x2 y2 e2).1 (ptS A x1 y1 e1 x2 y2 e2).2.2.1) (BH A B (ptS A x1 y1 e1 x2 y2 e2).1 (ptS A x1 y1 e1 x2 y2 e2).2.2.1)
 else ivZ
theorem two_pts {A B x1 y1 e1 x2 y2 e2 : Int} (h1 : pqB A B x1 y1 e1 = true) (h2 : pqB A B x2 y2 e2 = true) : ∀ j, j < 2 → pqB A B ([x1, y1, e1, x2, y2, e2][j * 3]?.getD 0) ([x1, y1, e1, x2, y2, e2][j * 3 + 1]?.getD 0) ([x1, y1, e1, x2, y2, e2][j * 3 + 2]?.getD 0) = true := by
 intro j hj
 rcases (show j = 0 ∨ j = 1 by omega) with rfl | rfl
 ·exact h1
 ·exact h2
theorem hpPair_any {A B x1 y1 e1 x2 y2 e2 : Int} (w : World) (h1 : pqB A B x1 y1 e1 = true) (h2 : pqB A B x2 y2 e2 = true) :
  Calls Tryz.prog 17 #[.agg #[.int .i64 A, .int .i64 B], .agg #[.int .i64 x1, .int .i64 y1, .int .i64 e1], .agg #[.int .i64 x2, .int .i64 y2, .int .i64 e2]] w fun r w' =>
   r = .returned (.tuple #[.agg #[.int .i64 (prV A B x1 y1 e1 x2 y2 e2).1, .int .i64 (prV A B x1 y1 e1 x2 y2 e2).2.1, .int .i64 (prV A B x1 y1 e1 x2 y2 e2).2.2.1, .int .i64 (prV A B x1 y1 e1 x2 y2 e2).2.2.2.1], .bool (prV A B x1 y1 e1 x2 y2 e2).2.2.2.2]) ∧ Below w.heap.size w w' := by
 have hb := pq_bd h1
 have TP := fun W : World => Lib.hid (ptAdd_any A B x1 y1 e1 x2 y2 e2 W hb.1 hb.2.1 (pq_pt h1) (pq_pt h2))
 have hok := ptS_ok hb.1 hb.2.1 (pq_pt h1) (pq_pt h2)
 have hpr : prV A B x1 y1 e1 x2 y2 e2 = if ((ptS A x1 y1 e1 x2 y2 e2).2.2.2 && BK A B (ptS A x1 y1 e1 x2 y2 e2).1 (ptS A x1 y1 e1 x2 y2 e2).2.2.1) = true then
  lsF A B [x1, y1, e1, x2, y2, e2] 2 0 (BL A B (ptS A x1 y1 e1 x2 y2 e2).1 (ptS A x1 y1 e1 x2 y2 e2).2.2.1) (BH A B (ptS A x1 y1 e1 x2 y2 e2).1 (ptS A x1 y1 e1 x2 y2 e2).2.2.1) else ivZ := rfl
 obtain ⟨s1, s2, s3, ok, hs⟩ : ∃ a b c d, ptS A x1 y1 e1 x2 y2 e2 = (a, b, c, d) := ⟨_, _, _, _, rfl⟩
 rw [hs] at TP hok hpr
 simp only at TP hok hpr
 obtain ⟨r1, r2, r3, r4, r5, hr⟩ := i5_open (prV A B x1 y1 e1 x2 y2 e2)
 rw [hr] at hpr ⊢
 have H1 := Lib.hid h1
 have H2 := Lib.hid h2
 clear hb h1 h2 hs hr
 have tok1 := trivial
 have tok2 := trivial
 have tok3 := trivial
 have tok4 := trivial
 have tok5 := trivial
 have tok6 := trivial
 have tok7 := trivial
 have tok8 := trivial
 have tok9 := trivial
 go_enter Tryz.func17, Tryz.ntmps17
 go_upto_region 1 with fail
 refine chk (fun W => Below w.heap.size w W ∧ W.heap[w.heap.size]? = some (.cells #[.int .i64 A, .int .i64 B] 32 (0, 0)) ∧ W.heap[w.heap.size + 1]? = some (.cells #[.int .i64 x1, .int .i64 y1, .int .i64 e1] 34 (0, 0)) ∧ W.heap[w.heap.size + 1 + 1]? = some (.cells #[.int .i64 x2, .int .i64 y2, .int .i64 e2] 34 (0, 0)) ∧ W.heap[w.heap.size + 1 + 1 + 1]? = some (.cells #[.int .i64 0, .int .i64 0, .int .i64 0, .int .i64 0] 29 (0, 0))) (by refine ⟨?_, ?_, ?_, ?_, ?_⟩ <;> (exact ck)) ?_
 rintro w1 ⟨hB1, qg, qh, qi, qj⟩
 obtain ⟨xo, xp, zm, je⟩ := bk2 qg
 replace qg := Lib.hid qg
 obtain ⟨xq, xr, xt, zn, jf⟩ := bk3 qh
 replace qh := Lib.hid qh
 obtain ⟨xu, xv, xw, zo, jg⟩ := bk3 qi
 replace qi := Lib.hid qi
 obtain ⟨xy, za, zb, zc, zp, jh⟩ := bk4 qj
 replace qj := Lib.hid qj
 go_upto_region 2 with (first | (have _t := tok2; go_at_call 23; (with_reducible refine ((TP _).out).mono ?_); rintro e w2 ⟨rfl, hb2⟩; clear tok2 _t; have hz2 := hb2.size; (try simp only [sA, sB, sC, sD] at hz2)))
 have hC2 := keepY hb2 qg.out
 have hP2 := keepY hb2 qh.out
 have hQ2 := keepY hb2 qi.out
 have hR2 := keepY hb2 qj.out
 have hB2 := below_via hb2 hB1 hB1.size
 clear hb2 TP
 replace qg := qg.out
 replace qh := qh.out
 replace qi := qi.out
 replace qj := qj.out
 refine chk (fun W => Below w.heap.size w W ∧ W.heap[w.heap.size]? = some (.cells #[.int .i64 A, .int .i64 B] 32 (0, 0)) ∧ W.heap[w.heap.size + 1]? = some (.cells #[.int .i64 x1, .int .i64 y1, .int .i64 e1] 34 (0, 0)) ∧ W.heap[w.heap.size + 1 + 1]? = some (.cells #[.int .i64 x2, .int .i64 y2, .int .i64 e2] 34 (0, 0)) ∧ W.heap[w.heap.size + 1 + 1 + 1]? = some (.cells #[.int .i64 0, .int .i64 0, .int .i64 0, .int .i64 0] 29 (0, 0)) ∧ W.heap[w2.heap.size]? = some (.cells #[.int .i64 s1, .int .i64 s2, .int .i64 s3] 34 (0, 0))) (by refine ⟨?_, ?_, ?_, ?_, ?_, ?_⟩ <;> (exact ck)) ?_
 clear xo xp zm qg
 clear xq xr xt zn qh
 clear xu xv xw zo qi
 clear xy za zb zc zp qj
 clear hB1
 rintro w3 ⟨hB3, qb, qc, qd, qa, qe⟩
 obtain ⟨qt, qu, xj, ji⟩ := bk2 qb
 replace qb := Lib.hid qb
 obtain ⟨qv, qw, qx, xk, jj⟩ := bk3 qc
 replace qc := Lib.hid qc
 obtain ⟨qy, qz, xa, xl, jk⟩ := bk3 qd
 replace qd := Lib.hid qd
 obtain ⟨qn, qo, qq, qr, xm, jl⟩ := bk4 qa
 replace qa := Lib.hid qa
 obtain ⟨xb, xc, xd, xn, jm⟩ := bk3 qe
 replace qe := Lib.hid qe
 clear hC2 hP2 hQ2 hR2 hB2
 cases ok
 ·rw [Bool.false_and, if_neg (by simp)] at hpr
  unfold ivZ at hpr
  obtain ⟨rfl, rfl, rfl, rfl, rfl⟩ : r1 = 0 ∧ r2 = 0 ∧ r3 = 0 ∧ r4 = 0 ∧ r5 = false := by simpa using hpr
  go_upto_region 3 with fail
  iterate 40 (first | (with_reducible show bodyPost _ _ _ _ _ _) | (with_reducible refine wp_ret ?_) | go_values | go_skip | go_guarded | go_step | go_upon | go_back | skip)
  refine bodyPost_ret (v := .tuple #[.agg #[.int .i64 0, .int .i64 0, .int .i64 0, .int .i64 0], .bool false]) (by simp [results, Tryz.results17, go_sem, qn, qo, qq, qr]) rfl ⟨rfl, ?_⟩
  have HO := qa.out
  (exact ck)
 ·have hsp : pqB A B s1 s2 s3 = true := by
   rcases hok with h | h
   ·exact pq_of H1.out h.2
   ·simp at h
  rw [Bool.true_and] at hpr
  have TH := fun W : World => Lib.hid (hpHeight_any W hsp)
  unfold hgV at TH
  go_upto_region 4 with fail
  cases hk : BK A B s1 s3
  ·rw [hk, if_neg (by simp)] at hpr
   rw [hk, if_neg (by simp)] at TH
   unfold ivZ at hpr TH
   obtain ⟨rfl, rfl, rfl, rfl, rfl⟩ : r1 = 0 ∧ r2 = 0 ∧ r3 = 0 ∧ r4 = 0 ∧ r5 = false := by simpa using hpr
   go_upto_region 5 with (first | (have _t := tok4; go_at_call 25; (with_reducible refine ((TH _).out).mono ?_); rintro e w4 ⟨rfl, hb4⟩; clear tok4 _t; have hz4 := hb4.size; (try simp only [sA, sB, sC, sD] at hz4)))
   have hC4 := keepY hb4 qb.out
   have hP4 := keepY hb4 qc.out
   have hQ4 := keepY hb4 qd.out
   have hR4 := keepY hb4 qa.out
   have hB4 := below_via hb4 hB3 hB3.size
   clear hb4 TH
   replace qb := qb.out
   replace qc := qc.out
   replace qd := qd.out
   replace qa := qa.out
   replace qe := qe.out
   refine chk (fun W => Below w.heap.size w W ∧ W.heap[w.heap.size]? = some (.cells #[.int .i64 A, .int .i64 B] 32 (0, 0)) ∧ W.heap[w.heap.size + 1]? = some (.cells #[.int .i64 x1, .int .i64 y1, .int .i64 e1] 34 (0, 0)) ∧ W.heap[w.heap.size + 1 + 1]? = some (.cells #[.int .i64 x2, .int .i64 y2, .int .i64 e2] 34 (0, 0)) ∧ W.heap[w.heap.size + 1 + 1 + 1]? = some (.cells #[.int .i64 0, .int .i64 0, .int .i64 0, .int .i64 0] 29 (0, 0))) (by refine ⟨?_, ?_, ?_, ?_, ?_⟩ <;> (exact ck)) ?_
   clear qt qu xj qb
   clear qv qw qx xk qc
   clear qy qz xa xl qd
   clear qn qo qq qr xm qa
   clear xb xc xd xn qe
   clear hB3
   rintro w5 ⟨hB5, qk, ql, qm, qf⟩
   obtain ⟨zd, ze, zq, zr⟩ := bk2 qk
   replace qk := Lib.hid qk
   obtain ⟨zf, zg, zh, zt, zu⟩ := bk3 ql
   replace ql := Lib.hid ql
   obtain ⟨zi, zj, zk, zv, zw⟩ := bk3 qm
   replace qm := Lib.hid qm
   obtain ⟨xe, xf, xg, xh, zx, zy⟩ := bk4 qf
   replace qf := Lib.hid qf
   clear hC4 hP4 hQ4 hR4 hB4
   go_upto_region 6 with fail
   iterate 40 (first | (with_reducible show bodyPost _ _ _ _ _ _) | (with_reducible refine wp_ret ?_) | go_values | go_skip | go_guarded | go_step | go_upon | go_back | skip)
   refine bodyPost_ret (v := .tuple #[.agg #[.int .i64 0, .int .i64 0, .int .i64 0, .int .i64 0], .bool false]) (by simp [results, Tryz.results17, go_sem, xe, xf, xg, xh]) rfl ⟨rfl, ?_⟩
   have HO := qf.out
   (exact ck)
  ·have hv := BK_valid hk
   rw [hk, if_pos rfl] at hpr
   rw [hk, if_pos rfl] at TH
   unfold mk5 at TH
   have TL0 := fun W (hp : Px W (some ⟨W.heap.size - 1, 0, none⟩) 2 2 [x1, y1, e1, x2, y2, e2]) => hpLess_any W hp hv (two_pts H1.out H2.out)
   rw [← hpr] at TL0
   simp only at TL0
   generalize BL A B s1 s3 = lo at *
   generalize BH A B s1 s3 = hi at *
   generalize mkN lo 4096 = i1 at *
   generalize mkD lo 4096 = i2 at *
   generalize mkN hi 4096 = i3 at *
   generalize mkD hi 4096 = i4 at *
   clear hpr hv hk
   go_upto_region 5 with (first | (have _t := tok4; go_at_call 25; (with_reducible refine ((TH _).out).mono ?_); rintro e w4 ⟨rfl, hb4⟩; clear tok4 _t; have hz4 := hb4.size; (try simp only [sA, sB, sC, sD] at hz4)))
   have hC4 := keepY hb4 qb.out
   have hP4 := keepY hb4 qc.out
   have hQ4 := keepY hb4 qd.out
   have hR4 := keepY hb4 qa.out
   have hB4 := below_via hb4 hB3 hB3.size
   clear hb4 TH
   replace qb := qb.out
   replace qc := qc.out
   replace qd := qd.out
   replace qa := qa.out
   replace qe := qe.out
   refine chk (fun W => Below w.heap.size w W ∧ W.heap[w.heap.size]? = some (.cells #[.int .i64 A, .int .i64 B] 32 (0, 0)) ∧ W.heap[w.heap.size + 1]? = some (.cells #[.int .i64 x1, .int .i64 y1, .int .i64 e1] 34 (0, 0)) ∧ W.heap[w.heap.size + 1 + 1]? = some (.cells #[.int .i64 x2, .int .i64 y2, .int .i64 e2] 34 (0, 0)) ∧ W.heap[w.heap.size + 1 + 1 + 1]? = some (.cells #[.int .i64 0, .int .i64 0, .int .i64 0, .int .i64 0] 29 (0, 0)) ∧ W.heap[w4.heap.size]? = some (.cells #[.int .i64 i1, .int .i64 i2, .int .i64 i3, .int .i64 i4] 29 (0, 0))) (by refine ⟨?_, ?_, ?_, ?_, ?_, ?_⟩ <;> (exact ck)) ?_
   clear qt qu xj qb
   clear qv qw qx xk qc
   clear qy qz xa xl qd
   clear qn qo qq qr xm qa
   clear xb xc xd xn qe
   clear hB3
   rintro w5 ⟨hB5, qk, ql, qm, qf, xi⟩
   obtain ⟨zd, ze, zq, zr⟩ := bk2 qk
   replace qk := Lib.hid qk
   obtain ⟨zf, zg, zh, zt, zu⟩ := bk3 ql
   replace ql := Lib.hid ql
   obtain ⟨zi, zj, zk, zv, zw⟩ := bk3 qm
   replace qm := Lib.hid qm
   obtain ⟨xe, xf, xg, xh, zx, zy⟩ := bk4 qf
   replace qf := Lib.hid qf
   obtain ⟨ja, jb, jc, jd, jn, jo⟩ := bk4 xi
   replace xi := Lib.hid xi
   clear hC4 hP4 hQ4 hR4 hB4
   go_upto_region 7 with fail
   have TL := Lib.hid (TL0 (w5.alloc (.cells #[.int .i64 x1, .int .i64 y1, .int .i64 e1, .int .i64 x2, .int .i64 y2, .int .i64 e2] 34)) (by
    have hq := heap_alloc_new w5 (.cells #[.int .i64 x1, .int .i64 y1, .int .i64 e1, .int .i64 x2, .int .i64 y2, .int .i64 e2] 34)
    simp only [World.size_alloc, Nat.add_sub_cancel]
    exact Px.of_row (zs := [x1, y1, e1, x2, y2, e2]) hq rfl (by unfold maxLen; omega)))
   simp only [World.size_alloc, Nat.add_sub_cancel] at TL
   clear TL0
   have hR5 := bx_old qf.out (.cells #[.int .i64 x1, .int .i64 y1, .int .i64 e1, .int .i64 x2, .int .i64 y2, .int .i64 e2] 34)
   go_wp2_with fail
   (first | (have _t := tok6; go_at_call 27; (with_reducible refine ((TL).out).mono ?_); rintro e w6 ⟨rfl, hb6⟩; clear tok6 _t; have hz6 := hb6.size; (try simp only [sA, sB, sC, sD] at hz6)))
   have hbw6 : Below w.heap.size w w6 := below_via (w1 := w5.alloc (.cells #[.int .i64 x1, .int .i64 y1, .int .i64 e1, .int .i64 x2, .int .i64 y2, .int .i64 e2] 34)) (by simpa using hb6) (hB5.alloc hB5.size _) (by have := hB5.size; simp; omega)
   have hRz := keepY (W := w5.alloc (.cells #[.int .i64 x1, .int .i64 y1, .int .i64 e1, .int .i64 x2, .int .i64 y2, .int .i64 e2] 34)) (by simpa using hb6) hR5
   have z0 : w6.cell? ⟨w.heap.size + 1 + 1 + 1, 0, none⟩ = some (.int .i64 0) := blk_cell hRz 0
   have z1 : w6.cell? ⟨w.heap.size + 1 + 1 + 1, 1, none⟩ = some (.int .i64 0) := blk_cell hRz 1
   have z2 : w6.cell? ⟨w.heap.size + 1 + 1 + 1, 2, none⟩ = some (.int .i64 0) := blk_cell hRz 2
   have z3 : w6.cell? ⟨w.heap.size + 1 + 1 + 1, 3, none⟩ = some (.int .i64 0) := blk_cell hRz 3
   have fz := fun o => blk_frozen hRz o
   have lz := blk_lt' hRz
   dsimp only
   iterate 40 (first | (with_reducible show bodyPost _ _ _ _ _ _) | (with_reducible refine wp_ret ?_) | go_values | go_skip | go_guarded | go_step | go_upon | go_back | skip)
   refine bodyPost_ret (v := .tuple #[.agg #[.int .i64 r1, .int .i64 r2, .int .i64 r3, .int .i64 r4], .bool r5]) (by simp [results, Tryz.results17, go_sem, z0, z1, z2, z3]) rfl ⟨rfl, ?_⟩
   exact bel
theorem hpTwo_any (A B x1 y1 e1 x2 y2 e2 : Int) (w : World) :
  Calls Tryz.prog 16 #[.agg #[.int .i64 A, .int .i64 B], .agg #[.int .i64 x1, .int .i64 y1, .int .i64 e1], .agg #[.int .i64 x2, .int .i64 y2, .int .i64 e2]] w fun r w' => r = .returned (.bool (pqB A B x1 y1 e1 && pqB A B x2 y2 e2)) ∧ Below w.heap.size w w' := by
 have T1 := fun W : World => Lib.hid (sIsP_any A B x1 y1 e1 W)
 have T2 := fun W : World => Lib.hid (sIsP_any A B x2 y2 e2 W)
 cases h : pqB A B x1 y1 e1
 ·rw [h] at T1
  rw [Bool.false_and]
  clear T2 h
  have T2 := T1
  have tok1 := trivial
  have tok2 := trivial
  go_enter Tryz.func16, Tryz.ntmps16
  go_wp2_with (first | (have _t := tok1; go_at_call 33; (with_reducible refine ((T1 _).out).mono ?_); rintro e w1 ⟨rfl, hb1⟩; clear tok1 _t; have hz1 := hb1.size; (try simp only [sA, sB, sC, sD] at hz1); (try (obtain ⟨kq, qi⟩ := cfAt hb1 (w.heap.size); have qa := kq 0; have qb := kq 1; clear kq; simp [go_sem, *] at qa qb qi)); (try have qv : w.heap.size < w1.heap.size := by omega); (try (obtain ⟨kq, qj⟩ := cfAt hb1 (w.heap.size + 1); have qc := kq 0; have qd := kq 1; have qe := kq 2; clear kq; simp [go_sem, *] at qc qd qe qj)); (try have qw : w.heap.size + 1 < w1.heap.size := by omega); (try (obtain ⟨kq, qk⟩ := cfAt hb1 (w.heap.size + 1 + 1); have qf := kq 0; have qg := kq 1; have qh := kq 2; clear kq; simp [go_sem, *] at qf qg qh qk)); (try have qx : w.heap.size + 1 + 1 < w1.heap.size := by omega)) | (have _t := tok2; go_at_call 33; (with_reducible refine ((T2 _).out).mono ?_); rintro e w2 ⟨rfl, hb2⟩; clear tok2 _t; have hz2 := hb2.size; (try simp only [sA, sB, sC, sD] at hz2); (try (obtain ⟨kq, qy⟩ := cfAt hb2 (w.heap.size); have ql := kq 0; have qm := kq 1; clear kq; simp [go_sem, *] at ql qm qy)); (try have xb : w.heap.size < w2.heap.size := by omega); (try (obtain ⟨kq, qz⟩ := cfAt hb2 (w.heap.size + 1); have qn := kq 0; have qo := kq 1; have qq := kq 2; clear kq; simp [go_sem, *] at qn qo qq qz)); (try have xc : w.heap.size + 1 < w2.heap.size := by omega); (try (obtain ⟨kq, xa⟩ := cfAt hb2 (w.heap.size + 1 + 1); have qr := kq 0; have qt := kq 1; have qu := kq 2; clear kq; simp [go_sem, *] at qr qt qu xa)); (try have xd : w.heap.size + 1 + 1 < w2.heap.size := by omega); (try clear qa qb qi); (try clear qv); (try clear qc qd qe qj); (try clear qw); (try clear qf qg qh qk); (try clear qx)))
  go_ret
  refine ⟨rfl, ?_⟩
  exact bel
 ·rw [h] at T1
  rw [Bool.true_and]
  generalize pqB A B x2 y2 e2 = b at *
  clear h
  have tok1 := trivial
  have tok2 := trivial
  go_enter Tryz.func16, Tryz.ntmps16
  go_wp2_with (first | (have _t := tok1; go_at_call 33; (with_reducible refine ((T1 _).out).mono ?_); rintro e w1 ⟨rfl, hb1⟩; clear tok1 _t; have hz1 := hb1.size; (try simp only [sA, sB, sC, sD] at hz1); (try (obtain ⟨kq, qi⟩ := cfAt hb1 (w.heap.size); have qa := kq 0; have qb := kq 1; clear kq; simp [go_sem, *] at qa qb qi)); (try have qv : w.heap.size < w1.heap.size := by omega); (try (obtain ⟨kq, qj⟩ := cfAt hb1 (w.heap.size + 1); have qc := kq 0; have qd := kq 1; have qe := kq 2; clear kq; simp [go_sem, *] at qc qd qe qj)); (try have qw : w.heap.size + 1 < w1.heap.size := by omega); (try (obtain ⟨kq, qk⟩ := cfAt hb1 (w.heap.size + 1 + 1); have qf := kq 0; have qg := kq 1; have qh := kq 2; clear kq; simp [go_sem, *] at qf qg qh qk)); (try have qx : w.heap.size + 1 + 1 < w1.heap.size := by omega)) | (have _t := tok2; go_at_call 33; (with_reducible refine ((T2 _).out).mono ?_); rintro e w2 ⟨rfl, hb2⟩; clear tok2 _t; have hz2 := hb2.size; (try simp only [sA, sB, sC, sD] at hz2); (try (obtain ⟨kq, qy⟩ := cfAt hb2 (w.heap.size); have ql := kq 0; have qm := kq 1; clear kq; simp [go_sem, *] at ql qm qy)); (try have xb : w.heap.size < w2.heap.size := by omega); (try (obtain ⟨kq, qz⟩ := cfAt hb2 (w.heap.size + 1); have qn := kq 0; have qo := kq 1; have qq := kq 2; clear kq; simp [go_sem, *] at qn qo qq qz)); (try have xc : w.heap.size + 1 < w2.heap.size := by omega); (try (obtain ⟨kq, xa⟩ := cfAt hb2 (w.heap.size + 1 + 1); have qr := kq 0; have qt := kq 1; have qu := kq 2; clear kq; simp [go_sem, *] at qr qt qu xa)); (try have xd : w.heap.size + 1 + 1 < w2.heap.size := by omega); (try clear qa qb qi); (try clear qv); (try clear qc qd qe qj); (try clear qw); (try clear qf qg qh qk); (try clear qx)))
  go_ret
  refine ⟨rfl, ?_⟩
  exact bel
/-- what PairingOf answers -/
noncomputable def prF (A B x1 y1 e1 x2 y2 e2 : Int) : I5 := if (pqB A B x1 y1 e1 && pqB A B x2 y2 e2) = true then prV A B x1 y1 e1 x2 y2 e2 else ivZ
theorem sPairingOf_any (A B x1 y1 e1 x2 y2 e2 : Int) (w : World) :
  Calls Tryz.prog 6 #[.agg #[.int .i64 A, .int .i64 B], .agg #[.int .i64 x1, .int .i64 y1, .int .i64 e1], .agg #[.int .i64 x2, .int .i64 y2, .int .i64 e2]] w fun r w' =>
   r = .returned (.tuple #[.agg #[.int .i64 (prF A B x1 y1 e1 x2 y2 e2).1, .int .i64 (prF A B x1 y1 e1 x2 y2 e2).2.1, .int .i64 (prF A B x1 y1 e1 x2 y2 e2).2.2.1, .int .i64 (prF A B x1 y1 e1 x2 y2 e2).2.2.2.1], .bool (prF A B x1 y1 e1 x2 y2 e2).2.2.2.2]) ∧ Below w.heap.size w w' := by
 have TT := fun W : World => Lib.hid (hpTwo_any A B x1 y1 e1 x2 y2 e2 W)
 unfold prF
 cases hk : (pqB A B x1 y1 e1 && pqB A B x2 y2 e2)
 ·rw [hk] at TT
  rw [if_neg (by simp)]
  unfold ivZ
  clear hk
  have tok1 := trivial
  have tok2 := trivial
  have tok3 := trivial
  have tok4 := trivial
  have tok5 := trivial
  have tok6 := trivial
  have tok7 := trivial
  have tok8 := trivial
  have tok9 := trivial
  go_enter Tryz.func6, Tryz.ntmps6
  go_upto_region 1 with fail
  refine chk (fun W => Below w.heap.size w W ∧ W.heap[w.heap.size + 1 + 1 + 1]? = some (.cells #[.int .i64 0, .int .i64 0, .int .i64 0, .int .i64 0] 29 (0, 0)) ∧ W.heap[w.heap.size]? = some (.cells #[.int .i64 A, .int .i64 B] 32 (0, 0)) ∧ W.heap[w.heap.size + 1]? = some (.cells #[.int .i64 x1, .int .i64 y1, .int .i64 e1] 34 (0, 0)) ∧ W.heap[w.heap.size + 1 + 1]? = some (.cells #[.int .i64 x2, .int .i64 y2, .int .i64 e2] 34 (0, 0))) (by refine ⟨?_, ?_, ?_, ?_, ?_⟩ <;> (exact ck)) ?_
  rintro w1 ⟨hB1, qa, qb, qc, qd⟩
  obtain ⟨qf, qg, qh, qi, qx, xe⟩ := bk4 qa
  replace qa := Lib.hid qa
  obtain ⟨qj, qk, qy, xf⟩ := bk2 qb
  replace qb := Lib.hid qb
  obtain ⟨ql, qm, qn, qz, xg⟩ := bk3 qc
  replace qc := Lib.hid qc
  obtain ⟨qo, qq, qr, xa, xh⟩ := bk3 qd
  replace qd := Lib.hid qd
  go_upto_region 2 with (first | (have _t := tok2; go_at_call 16; (with_reducible refine ((TT _).out).mono ?_); rintro e w2 ⟨rfl, hb2⟩; clear tok2 _t; have hz2 := hb2.size; (try simp only [sA, sB, sC, sD] at hz2)))
  have hR2 := keepY hb2 qa.out
  have hB2 := below_via hb2 hB1 hB1.size
  clear hb2
  replace qa := qa.out
  replace qb := qb.out
  replace qc := qc.out
  replace qd := qd.out
  refine chk (fun W => Below w.heap.size w W ∧ W.heap[w.heap.size + 1 + 1 + 1]? = some (.cells #[.int .i64 0, .int .i64 0, .int .i64 0, .int .i64 0] 29 (0, 0))) (by refine ⟨?_, ?_⟩ <;> (exact ck)) ?_
  clear qf qg qh qi qx qa
  clear qj qk qy qb
  clear ql qm qn qz qc
  clear qo qq qr xa qd
  clear hB1
  rintro w3 ⟨hB3, qe⟩
  obtain ⟨qt, qu, qv, qw, xi, xj⟩ := bk4 qe
  replace qe := Lib.hid qe
  iterate 40 (first | (with_reducible show bodyPost _ _ _ _ _ _) | (with_reducible refine wp_ret ?_) | go_values | go_skip | go_guarded | go_step | go_upon | go_back | skip)
  refine bodyPost_ret (v := .tuple #[.agg #[.int .i64 0, .int .i64 0, .int .i64 0, .int .i64 0], .bool false]) (by simp [results, Tryz.results6, go_sem, qt, qu, qv, qw]) rfl ⟨rfl, ?_⟩
  have HO := qe.out
  (exact ck)
 ·rw [hk] at TT
  rw [if_pos rfl]
  rw [Bool.and_eq_true] at hk
  have TP := fun W : World => Lib.hid (hpPair_any W hk.1 hk.2)
  obtain ⟨r1, r2, r3, r4, r5, hr⟩ := i5_open (prV A B x1 y1 e1 x2 y2 e2)
  rw [hr] at TP ⊢
  simp only at TP ⊢
  clear hk hr
  have tok1 := trivial
  have tok2 := trivial
  have tok3 := trivial
  have tok4 := trivial
  have tok5 := trivial
  have tok6 := trivial
  have tok7 := trivial
  have tok8 := trivial
  have tok9 := trivial
  go_enter Tryz.func6, Tryz.ntmps6
  go_upto_region 1 with fail
  refine chk (fun W => Below w.heap.size w W ∧ W.heap[w.heap.size + 1 + 1 + 1]? = some (.cells #[.int .i64 0, .int .i64 0, .int .i64 0, .int .i64 0] 29 (0, 0)) ∧ W.heap[w.heap.size]? = some (.cells #[.int .i64 A, .int .i64 B] 32 (0, 0)) ∧ W.heap[w.heap.size + 1]? = some (.cells #[.int .i64 x1, .int .i64 y1, .int .i64 e1] 34 (0, 0)) ∧ W.heap[w.heap.size + 1 + 1]? = some (.cells #[.int .i64 x2, .int .i64 y2, .int .i64 e2] 34 (0, 0))) (by refine ⟨?_, ?_, ?_, ?_, ?_⟩ <;> (exact ck)) ?_
  rintro w1 ⟨hB1, qa, qb, qc, qd⟩
  obtain ⟨qf, qg, qh, qi, qx, xe⟩ := bk4 qa
  replace qa := Lib.hid qa
  obtain ⟨qj, qk, qy, xf⟩ := bk2 qb
  replace qb := Lib.hid qb
  obtain ⟨ql, qm, qn, qz, xg⟩ := bk3 qc
  replace qc := Lib.hid qc
  obtain ⟨qo, qq, qr, xa, xh⟩ := bk3 qd
  replace qd := Lib.hid qd
  go_upto_region 3 with (first | (have _t := tok2; go_at_call 16; (with_reducible refine ((TT _).out).mono ?_); rintro e w2 ⟨rfl, hb2⟩; clear tok2 _t; have hz2 := hb2.size; (try simp only [sA, sB, sC, sD] at hz2)))
  have hR2 := keepY hb2 qa.out
  have hC2 := keepY hb2 qb.out
  have hP2 := keepY hb2 qc.out
  have hQ2 := keepY hb2 qd.out
  have hB2 := below_via hb2 hB1 hB1.size
  clear hb2
  replace qa := qa.out
  replace qb := qb.out
  replace qc := qc.out
  replace qd := qd.out
  refine chk (fun W => Below w.heap.size w W ∧ W.heap[w.heap.size + 1 + 1 + 1]? = some (.cells #[.int .i64 0, .int .i64 0, .int .i64 0, .int .i64 0] 29 (0, 0)) ∧ W.heap[w.heap.size]? = some (.cells #[.int .i64 A, .int .i64 B] 32 (0, 0)) ∧ W.heap[w.heap.size + 1]? = some (.cells #[.int .i64 x1, .int .i64 y1, .int .i64 e1] 34 (0, 0)) ∧ W.heap[w.heap.size + 1 + 1]? = some (.cells #[.int .i64 x2, .int .i64 y2, .int .i64 e2] 34 (0, 0))) (by refine ⟨?_, ?_, ?_, ?_, ?_⟩ <;> (exact ck)) ?_
  clear qf qg qh qi qx qa
  clear qj qk qy qb
  clear ql qm qn qz qc
  clear qo qq qr xa qd
  clear hB1
  rintro w3 ⟨hB3, qe, xb, xc, xd⟩
  obtain ⟨qt, qu, qv, qw, xi, xj⟩ := bk4 qe
  replace qe := Lib.hid qe
  obtain ⟨xk, xl, xt, xu⟩ := bk2 xb
  replace xb := Lib.hid xb
  obtain ⟨xm, xn, xo, xv, xw⟩ := bk3 xc
  replace xc := Lib.hid xc
  obtain ⟨xp, xq, xr, xy, za⟩ := bk3 xd
  replace xd := Lib.hid xd
  clear hR2 hC2 hP2 hQ2 hB2
  go_wp2_with fail
  (first | (have _t := tok4; go_at_call 17; (with_reducible refine ((TP _).out).mono ?_); rintro e w4 ⟨rfl, hb4⟩; clear tok4 _t; have hz4 := hb4.size; (try simp only [sA, sB, sC, sD] at hz4)))
  have hRz := keepY hb4 qe.out
  have z0 : w4.cell? ⟨w.heap.size + 1 + 1 + 1, 0, none⟩ = some (.int .i64 0) := blk_cell hRz 0
  have z1 : w4.cell? ⟨w.heap.size + 1 + 1 + 1, 1, none⟩ = some (.int .i64 0) := blk_cell hRz 1
  have z2 : w4.cell? ⟨w.heap.size + 1 + 1 + 1, 2, none⟩ = some (.int .i64 0) := blk_cell hRz 2
  have z3 : w4.cell? ⟨w.heap.size + 1 + 1 + 1, 3, none⟩ = some (.int .i64 0) := blk_cell hRz 3
  have fz := fun o => blk_frozen hRz o
  have lz := blk_lt' hRz
  dsimp only
  iterate 40 (first | (with_reducible show bodyPost _ _ _ _ _ _) | (with_reducible refine wp_ret ?_) | go_values | go_skip | go_guarded | go_step | go_upon | go_back | skip)
  refine bodyPost_ret (v := .tuple #[.agg #[.int .i64 r1, .int .i64 r2, .int .i64 r3, .int .i64 r4], .bool r5]) (by simp [results, Tryz.results6, go_sem, z0, z1, z2, z3]) rfl ⟨rfl, ?_⟩
  exact bel
end Go.Proofs.YtnkmgpmehkholaaGreat
