/- Lemmas and contracts of functions. No condition. -/
import Derived.Test.YtnkmgpmehkholaaGreatPq6
import Derived.Test.YtnkmgpmehkholaaGreatPq49
import Derived.Test.YtnkmgpmehkholaaGreatPq50
import Derived.Test.YtnkmgpmehkholaaGreatPq51
namespace Go.Proofs.YtnkmgpmehkholaaGreat
section
open Go.RowKit
set_option linter.unusedVariables false
set_option maxHeartbeats 0
set_option maxRecDepth 20000
set_option linter.unusedSimpArgs false
attribute [local go_sem] openAt openUpon
theorem calE_blk {T : TypeId} {w w1 : World} {p b : Nat} {X : Obj} (h : CalE T w w1 p) (e : w.heap[b]? = some X) (hne : b ≠ p) : w1.heap[b]? = some X := h.elim fun v h => cal_blk h e hne
theorem bk8 {W : World} {g : Nat} {x1 x2 x3 x4 x5 x6 x7 x8 : Value} {T : TypeId} (h : W.heap[g]? = some (.cells #[x1, x2, x3, x4, x5, x6, x7, x8] T (0, 0))) : W.cell? ⟨g, 0, none⟩ = some x1 ∧ W.cell? ⟨g, 1, none⟩ = some x2 ∧ W.cell? ⟨g, 2, none⟩ = some x3 ∧ W.cell? ⟨g, 3, none⟩ = some x4 ∧ W.cell? ⟨g, 4, none⟩ = some x5 ∧ W.cell? ⟨g, 5, none⟩ = some x6 ∧ W.cell? ⟨g, 6, none⟩ = some x7 ∧ W.cell? ⟨g, 7, none⟩ = some x8 ∧ (∀ o, W.frozen? ⟨g, o, none⟩ = false) ∧ g < W.heap.size := ⟨blk_cell h 0, blk_cell h 1, blk_cell h 2, blk_cell h 3, blk_cell h 4, blk_cell h 5, blk_cell h 6, blk_cell h 7, blk_frozen h, blk_lt' h⟩
theorem Gap_no (A B x1 y1 e1 x2 y2 e2 : Int) (w : World) (hk : (pqB A B x1 y1 e1 && pqB A B x2 y2 e2) = false) :
  Calls Tryz.prog 15 #[.agg #[.int .i64 A, .int .i64 B], .agg #[.int .i64 x1, .int .i64 y1, .int .i64 e1], .agg #[.int .i64 x2, .int .i64 y2, .int .i64 e2]] w fun r w' =>
   r = .returned (.tuple #[.agg #[.int .i64 0, .int .i64 0, .int .i64 0, .int .i64 0], .bool false]) ∧ Below w.heap.size w w' := by
 have T1 := fun W : World => Lib.hid (isP_any A B x1 y1 e1 W)
 have TT := fun W : World => Lib.hid (isP_any A B x2 y2 e2 W)
 cases h1 : pqB A B x1 y1 e1
 ·rw [h1] at T1
  clear h1 hk
  have tok1 := trivial
  have tok2 := trivial
  have tok3 := trivial
  have tok4 := trivial
  go_enter Tryz.func15, Tryz.ntmps15
  go_upto_region 2 with (first | (have _t := tok1; go_at_call 18; (with_reducible refine ((T1 _).out).mono ?_); rintro e w1 ⟨rfl, hb1⟩; clear tok1 _t; have hz1 := hb1.size; (try simp only [sA, sB, sC, sD] at hz1); (try (obtain ⟨kq, qo⟩ := cfAt hb1 (w.heap.size); have qc := kq 0; have qd := kq 1; clear kq; simp [go_sem, *] at qc qd qo)); (try have xi : w.heap.size < w1.heap.size := by omega); (try (obtain ⟨kq, qq⟩ := cfAt hb1 (w.heap.size + 1); have qe := kq 0; have qf := kq 1; have qg := kq 2; clear kq; simp [go_sem, *] at qe qf qg qq)); (try have xj : w.heap.size + 1 < w1.heap.size := by omega); (try (obtain ⟨kq, qr⟩ := cfAt hb1 (w.heap.size + 1 + 1); have qh := kq 0; have qi := kq 1; have qj := kq 2; clear kq; simp [go_sem, *] at qh qi qj qr)); (try have xk : w.heap.size + 1 + 1 < w1.heap.size := by omega); (try (obtain ⟨kq, qt⟩ := cfAt hb1 (w.heap.size + 1 + 1 + 1); have qk := kq 0; have ql := kq 1; have qm := kq 2; have qn := kq 3; clear kq; simp [go_sem, *] at qk ql qm qn qt)); (try have xl : w.heap.size + 1 + 1 + 1 < w1.heap.size := by omega)) | (have _t := tok2; go_at_call 18; (with_reducible refine ((TT _).out).mono ?_); rintro e w2 ⟨rfl, hb2⟩; clear tok2 _t; have hz2 := hb2.size; (try simp only [sA, sB, sC, sD] at hz2); (try (obtain ⟨kq, xm⟩ := cfAt hb2 (w.heap.size); have qu := kq 0; have qv := kq 1; clear kq; simp [go_sem, *] at qu qv xm)); (try have xq : w.heap.size < w2.heap.size := by omega); (try (obtain ⟨kq, xn⟩ := cfAt hb2 (w.heap.size + 1); have qw := kq 0; have qx := kq 1; have qy := kq 2; clear kq; simp [go_sem, *] at qw qx qy xn)); (try have xr : w.heap.size + 1 < w2.heap.size := by omega); (try (obtain ⟨kq, xo⟩ := cfAt hb2 (w.heap.size + 1 + 1); have qz := kq 0; have xc := kq 1; have xd := kq 2; clear kq; simp [go_sem, *] at qz xc xd xo)); (try have xt : w.heap.size + 1 + 1 < w2.heap.size := by omega); (try (obtain ⟨kq, xp⟩ := cfAt hb2 (w.heap.size + 1 + 1 + 1); have xe := kq 0; have xf := kq 1; have xg := kq 2; have xh := kq 3; clear kq; simp [go_sem, *] at xe xf xg xh xp)); (try have xu : w.heap.size + 1 + 1 + 1 < w2.heap.size := by omega); (try clear qc qd qo); (try clear xi); (try clear qe qf qg qq); (try clear xj); (try clear qh qi qj qr); (try clear xk); (try clear qk ql qm qn qt); (try clear xl)))
  iterate 40 (first | (with_reducible show bodyPost _ _ _ _ _ _) | (with_reducible refine wp_ret ?_) | go_values | go_skip | go_guarded | go_step | go_upon | go_back | skip)
  refine bodyPost_ret (v := _) (by simp [results, Tryz.results15, go_sem, *]) rfl ⟨rfl, ?_⟩
  exact bel
 ·rw [h1] at T1 hk
  rw [Bool.true_and] at hk
  rw [hk] at TT
  clear h1 hk
  have tok1 := trivial
  have tok2 := trivial
  have tok3 := trivial
  have tok4 := trivial
  go_enter Tryz.func15, Tryz.ntmps15
  go_upto_region 2 with (first | (have _t := tok1; go_at_call 18; (with_reducible refine ((T1 _).out).mono ?_); rintro e w1 ⟨rfl, hb1⟩; clear tok1 _t; have hz1 := hb1.size; (try simp only [sA, sB, sC, sD] at hz1); (try (obtain ⟨kq, qo⟩ := cfAt hb1 (w.heap.size); have qc := kq 0; have qd := kq 1; clear kq; simp [go_sem, *] at qc qd qo)); (try have xi : w.heap.size < w1.heap.size := by omega); (try (obtain ⟨kq, qq⟩ := cfAt hb1 (w.heap.size + 1); have qe := kq 0; have qf := kq 1; have qg := kq 2; clear kq; simp [go_sem, *] at qe qf qg qq)); (try have xj : w.heap.size + 1 < w1.heap.size := by omega); (try (obtain ⟨kq, qr⟩ := cfAt hb1 (w.heap.size + 1 + 1); have qh := kq 0; have qi := kq 1; have qj := kq 2; clear kq; simp [go_sem, *] at qh qi qj qr)); (try have xk : w.heap.size + 1 + 1 < w1.heap.size := by omega); (try (obtain ⟨kq, qt⟩ := cfAt hb1 (w.heap.size + 1 + 1 + 1); have qk := kq 0; have ql := kq 1; have qm := kq 2; have qn := kq 3; clear kq; simp [go_sem, *] at qk ql qm qn qt)); (try have xl : w.heap.size + 1 + 1 + 1 < w1.heap.size := by omega)) | (have _t := tok2; go_at_call 18; (with_reducible refine ((TT _).out).mono ?_); rintro e w2 ⟨rfl, hb2⟩; clear tok2 _t; have hz2 := hb2.size; (try simp only [sA, sB, sC, sD] at hz2); (try (obtain ⟨kq, xm⟩ := cfAt hb2 (w.heap.size); have qu := kq 0; have qv := kq 1; clear kq; simp [go_sem, *] at qu qv xm)); (try have xq : w.heap.size < w2.heap.size := by omega); (try (obtain ⟨kq, xn⟩ := cfAt hb2 (w.heap.size + 1); have qw := kq 0; have qx := kq 1; have qy := kq 2; clear kq; simp [go_sem, *] at qw qx qy xn)); (try have xr : w.heap.size + 1 < w2.heap.size := by omega); (try (obtain ⟨kq, xo⟩ := cfAt hb2 (w.heap.size + 1 + 1); have qz := kq 0; have xc := kq 1; have xd := kq 2; clear kq; simp [go_sem, *] at qz xc xd xo)); (try have xt : w.heap.size + 1 + 1 < w2.heap.size := by omega); (try (obtain ⟨kq, xp⟩ := cfAt hb2 (w.heap.size + 1 + 1 + 1); have xe := kq 0; have xf := kq 1; have xg := kq 2; have xh := kq 3; clear kq; simp [go_sem, *] at xe xf xg xh xp)); (try have xu : w.heap.size + 1 + 1 + 1 < w2.heap.size := by omega); (try clear qc qd qo); (try clear xi); (try clear qe qf qg qq); (try clear xj); (try clear qh qi qj qr); (try clear xk); (try clear qk ql qm qn qt); (try clear xl)))
  iterate 40 (first | (with_reducible show bodyPost _ _ _ _ _ _) | (with_reducible refine wp_ret ?_) | go_values | go_skip | go_guarded | go_step | go_upon | go_back | skip)
  refine bodyPost_ret (v := _) (by simp [results, Tryz.results15, go_sem, *]) rfl ⟨rfl, ?_⟩
  exact bel
theorem Gap_yes {A B x1 y1 e1 x2 y2 e2 : Int} (w : World) (h1 : pqB A B x1 y1 e1 = true) (h2 : pqB A B x2 y2 e2 = true) :
  Calls Tryz.prog 15 #[.agg #[.int .i64 A, .int .i64 B], .agg #[.int .i64 x1, .int .i64 y1, .int .i64 e1], .agg #[.int .i64 x2, .int .i64 y2, .int .i64 e2]] w fun r w' =>
   r = .returned (.tuple #[.agg #[.int .i64 (gpV A B x1 y1 e1 x2 y2 e2).1, .int .i64 (gpV A B x1 y1 e1 x2 y2 e2).2.1, .int .i64 (gpV A B x1 y1 e1 x2 y2 e2).2.2.1, .int .i64 (gpV A B x1 y1 e1 x2 y2 e2).2.2.2.1], .bool (gpV A B x1 y1 e1 x2 y2 e2).2.2.2.2]) ∧ Below w.heap.size w w' := by
 have T1 := fun W : World => Lib.hid (isP_any A B x1 y1 e1 W)
 have TT := fun W : World => Lib.hid (isP_any A B x2 y2 e2 W)
 rw [h1] at T1
 rw [h2] at TT
 have hb := pq_bd h1
 have hy2 := pq_y h2
 have TP := fun W : World => Lib.hid (addPoints_any A B x1 y1 e1 x2 y2 e2 W hb.1 hb.2.1 (pq_pt h1) (pq_pt h2))
 have TM := fun W : World => Lib.hid (opposite_any x2 y2 e2 W (by omega))
 have TQ := fun W : World => Lib.hid (addPoints_any A B x1 y1 e1 x2 (-y2) e2 W hb.1 hb.2.1 (pq_pt h1) (gpB_neg (pq_pt h2)))
 have ok1 := ptS_ok hb.1 hb.2.1 (pq_pt h1) (pq_pt h2)
 have ok2 := ptS_ok hb.1 hb.2.1 (pq_pt h1) (gpB_neg (pq_pt h2))
 have hpr : gpV A B x1 y1 e1 x2 y2 e2 = if ((ptS A x1 y1 e1 x2 y2 e2).2.2.2 && (ptS A x1 y1 e1 x2 (-y2) e2).2.2.2) = true then
  gpH A B (ptS A x1 y1 e1 x2 y2 e2).1 (ptS A x1 y1 e1 x2 y2 e2).2.2.1 (ptS A x1 y1 e1 x2 (-y2) e2).1 (ptS A x1 y1 e1 x2 (-y2) e2).2.2.1 x1 y1 e1 x2 y2 e2 else ivZ := rfl
 obtain ⟨s1, s2, s3, so, hs⟩ : ∃ a b c d, ptS A x1 y1 e1 x2 y2 e2 = (a, b, c, d) := ⟨_, _, _, _, rfl⟩
 obtain ⟨t1, t2, t3, to', ht⟩ : ∃ a b c d, ptS A x1 y1 e1 x2 (-y2) e2 = (a, b, c, d) := ⟨_, _, _, _, rfl⟩
 rw [hs] at TP ok1 hpr
 rw [ht] at TQ ok2 hpr
 simp only at TP ok1 TQ ok2 hpr
 obtain ⟨r1, r2, r3, r4, r5, hr⟩ := i5_open (gpV A B x1 y1 e1 x2 y2 e2)
 rw [hr] at hpr ⊢
 have H1 := Lib.hid h1
 have H2 := Lib.hid h2
 have HP := Lib.hid hpr
 have OK1 := Lib.hid ok1
 have OK2 := Lib.hid ok2
 clear hb h1 h2 hs ht hr hpr ok1 ok2 hy2
 generalize hny : -y2 = n2 at *
 clear hny
 have tok21 := trivial
 have tok22 := trivial
 have tok23 := trivial
 have tok41 := trivial
 have tok1 := trivial
 have tok2 := trivial
 have tok3 := trivial
 have tok4 := trivial
 have tok5 := trivial
 have tok6 := trivial
 have tok7 := trivial
 have tok8 := trivial
 have tok9 := trivial
 have tok10 := trivial
 have tok11 := trivial
 have tok12 := trivial
 have tok13 := trivial
 have tok14 := trivial
 have tok15 := trivial
 go_enter Tryz.func15, Tryz.ntmps15
 go_upto_region 1 with fail
 refine chk (fun W => Below w.heap.size w W ∧ W.heap[w.heap.size]? = some (.cells #[.int .i64 A, .int .i64 B] 32 (0, 0)) ∧ W.heap[w.heap.size + 1]? = some (.cells #[.int .i64 x1, .int .i64 y1, .int .i64 e1] 34 (0, 0)) ∧ W.heap[w.heap.size + 1 + 1]? = some (.cells #[.int .i64 x2, .int .i64 y2, .int .i64 e2] 34 (0, 0)) ∧ W.heap[w.heap.size + 1 + 1 + 1]? = some (.cells #[.int .i64 0, .int .i64 0, .int .i64 0, .int .i64 0] 29 (0, 0))) (by refine ⟨?_, ?_, ?_, ?_, ?_⟩ <;> (exact ck)) ?_
 rintro w40 ⟨hB40, qu, qv, qw, qd⟩
 obtain ⟨yr, yt, fw, Wf⟩ := bk2 qu
 replace qu := Lib.hid qu
 obtain ⟨yu, yv, yw, ba, Wg⟩ := bk3 qv
 replace qv := Lib.hid qv
 obtain ⟨yx, yz, va, bc, Wh⟩ := bk3 qw
 replace qw := Lib.hid qw
 obtain ⟨qj, qk, ql, qm, qi, qc⟩ := bk4 qd
 replace qd := Lib.hid qd
 go_upto_region 3 with (first | (have _t := tok1; go_at_call 18; (with_reducible refine ((T1 _).out).mono ?_); rintro e w1 ⟨rfl, hb1⟩; clear tok1 _t; have hz1 := hb1.size; (try simp only [sA, sB, sC, sD] at hz1); (try (obtain ⟨kq, bd⟩ := cfAt hb1 (w.heap.size); have vb := kq 0; have vc := kq 1; clear kq; simp [go_sem, *] at vb vc bd)); (try have Qw : w.heap.size < w1.heap.size := by omega); (try (obtain ⟨kq, bf⟩ := cfAt hb1 (w.heap.size + 1); have vd := kq 0; have vf := kq 1; have vg := kq 2; clear kq; simp [go_sem, *] at vd vf vg bf)); (try have Qx : w.heap.size + 1 < w1.heap.size := by omega); (try (obtain ⟨kq, bg⟩ := cfAt hb1 (w.heap.size + 1 + 1); have vh := kq 0; have vi := kq 1; have vj := kq 2; clear kq; simp [go_sem, *] at vh vi vj bg)); (try have Qy : w.heap.size + 1 + 1 < w1.heap.size := by omega); (try (obtain ⟨kq, bh⟩ := cfAt hb1 (w.heap.size + 1 + 1 + 1); have vk := kq 0; have vm := kq 1; have vn := kq 2; have vo := kq 3; clear kq; simp [go_sem, *] at vk vm vn vo bh)); (try have Qz : w.heap.size + 1 + 1 + 1 < w1.heap.size := by omega)) | (have _t := tok2; go_at_call 18; (with_reducible refine ((TT _).out).mono ?_); rintro e w2 ⟨rfl, hb2⟩; clear tok2 _t; have hz2 := hb2.size; (try simp only [sA, sB, sC, sD] at hz2); (try (obtain ⟨kq, bi⟩ := cfAt hb2 (w.heap.size); have vp := kq 0; have vq := kq 1; clear kq; simp [go_sem, *] at vp vq bi)); (try have Xa : w.heap.size < w2.heap.size := by omega); (try (obtain ⟨kq, bj⟩ := cfAt hb2 (w.heap.size + 1); have vr := kq 0; have vt := kq 1; have vu := kq 2; clear kq; simp [go_sem, *] at vr vt vu bj)); (try have Xb : w.heap.size + 1 < w2.heap.size := by omega); (try (obtain ⟨kq, bk⟩ := cfAt hb2 (w.heap.size + 1 + 1); have vv := kq 0; have vw := kq 1; have vy := kq 2; clear kq; simp [go_sem, *] at vv vw vy bk)); (try have Xc : w.heap.size + 1 + 1 < w2.heap.size := by omega); (try (obtain ⟨kq, bm⟩ := cfAt hb2 (w.heap.size + 1 + 1 + 1); have wc := kq 0; have wd := kq 1; have wg := kq 2; have wi := kq 3; clear kq; simp [go_sem, *] at wc wd wg wi bm)); (try have Xd : w.heap.size + 1 + 1 + 1 < w2.heap.size := by omega); (try clear vb vc bd); (try clear Qw); (try clear vd vf vg bf); (try clear Qx); (try clear vh vi vj bg); (try clear Qy); (try clear vk vm vn vo bh); (try clear Qz)))
 have hb2 := below_via hb2 hb1 hb1.size
 have xv := (hb2.block (w.heap.size) (blk_lt' qu.out)).trans qu.out
 clear yr yt fw qu
 obtain ⟨uw, uy, ml, Gi⟩ := bk2 xv
 replace xv := Lib.hid xv
 have xw := (hb2.block (w.heap.size + 1) (blk_lt' qv.out)).trans qv.out
 clear yu yv yw ba qv
 obtain ⟨gc, ge, gh, mn, Gj⟩ := bk3 xw
 replace xw := Lib.hid xw
 have xy := (hb2.block (w.heap.size + 1 + 1) (blk_lt' qw.out)).trans qw.out
 clear yx yz va bc qw
 obtain ⟨gk, gm, gn, mo, Gk⟩ := bk3 xy
 replace xy := Lib.hid xy
 have za := (hb2.block (w.heap.size + 1 + 1 + 1) (blk_lt' qd.out)).trans qd.out
 clear qj qk ql qm qi qd
 obtain ⟨gr, gt, gu, gy, mp, Gl⟩ := bk4 za
 replace za := Lib.hid za
 have hB2 : Below w.heap.size w w2 := below_via hb2 (by assumption) (by go_size)
 clear T1 TT
 replace xv := xv.out
 replace xw := xw.out
 replace xy := xy.out
 replace za := za.out
 refine chk (fun W => Below w.heap.size w W ∧ W.heap[w.heap.size]? = some (.cells #[.int .i64 A, .int .i64 B] 32 (0, 0)) ∧ W.heap[w.heap.size + 1]? = some (.cells #[.int .i64 x1, .int .i64 y1, .int .i64 e1] 34 (0, 0)) ∧ W.heap[w.heap.size + 1 + 1]? = some (.cells #[.int .i64 x2, .int .i64 y2, .int .i64 e2] 34 (0, 0)) ∧ W.heap[w.heap.size + 1 + 1 + 1]? = some (.cells #[.int .i64 0, .int .i64 0, .int .i64 0, .int .i64 0] 29 (0, 0))) (by refine ⟨?_, ?_, ?_, ?_, ?_⟩ <;> (exact ck)) ?_
 clear uw uy ml xv
 clear gc ge gh mn xw
 clear gk gm gn mo xy
 clear gr gt gu gy mp za
 clear hB2
 rintro w3 ⟨hB3, qz, xc, xd, xe⟩
 obtain ⟨ka, kb, mq, Gm⟩ := bk2 qz
 replace qz := Lib.hid qz
 obtain ⟨kc, kd, ke, mr, Gn⟩ := bk3 xc
 replace xc := Lib.hid xc
 obtain ⟨kf, kh, ki, mu, Gp⟩ := bk3 xd
 replace xd := Lib.hid xd
 obtain ⟨kj, kl, km, kn, mv, Gq⟩ := bk4 xe
 replace xe := Lib.hid xe
 go_upto_region 4 with (first | (have _t := tok4; go_at_call 28; (with_reducible refine ((TP _).out).mono ?_); rintro e w4 ⟨rfl, hb4⟩; clear tok4 _t; have hz4 := hb4.size; (try simp only [sA, sB, sC, sD] at hz4)))
 have hC4 := keepY hb4 qz.out
 have hP4 := keepY hb4 xc.out
 have hQ4 := keepY hb4 xd.out
 have hR4 := keepY hb4 xe.out
 have hB4 := below_via hb4 hB3 hB3.size
 clear hb4 TP
 replace qz := qz.out
 replace xc := xc.out
 replace xd := xd.out
 replace xe := xe.out
 refine chk (fun W => Below w.heap.size w W ∧ W.heap[w.heap.size]? = some (.cells #[.int .i64 A, .int .i64 B] 32 (0, 0)) ∧ W.heap[w.heap.size + 1]? = some (.cells #[.int .i64 x1, .int .i64 y1, .int .i64 e1] 34 (0, 0)) ∧ W.heap[w.heap.size + 1 + 1]? = some (.cells #[.int .i64 x2, .int .i64 y2, .int .i64 e2] 34 (0, 0)) ∧ W.heap[w.heap.size + 1 + 1 + 1]? = some (.cells #[.int .i64 0, .int .i64 0, .int .i64 0, .int .i64 0] 29 (0, 0)) ∧ W.heap[w4.heap.size]? = some (.cells #[.int .i64 s1, .int .i64 s2, .int .i64 s3] 34 (0, 0))) (by refine ⟨?_, ?_, ?_, ?_, ?_, ?_⟩ <;> (exact ck)) ?_
 clear ka kb mq qz
 clear kc kd ke mr xc
 clear kf kh ki mu xd
 clear kj kl km kn mv xe
 clear hB3
 rintro w5 ⟨hB5, zb, zc, zd, ze, zf⟩
 obtain ⟨ko, kp, mw, Gr⟩ := bk2 zb
 replace zb := Lib.hid zb
 obtain ⟨kr, ks, kt, mx, Gs⟩ := bk3 zc
 replace zc := Lib.hid zc
 obtain ⟨ku, kw, kx, my, Gt⟩ := bk3 zd
 replace zd := Lib.hid zd
 obtain ⟨ky, kz, pc, pd, mz, Gu⟩ := bk4 ze
 replace ze := Lib.hid ze
 obtain ⟨pe, pf, pg, Qa, Gv⟩ := bk3 zf
 replace zf := Lib.hid zf
 clear hC4 hP4 hQ4 hR4 hB4
 generalize w4.heap.size = gs at *
 clear w4
 refine wp_drawn_fill (n := 8) 10 42 34 #[.int .i64 0, .int .i64 0, .int .i64 0] (by kernel_rfl) (by kernel_rfl) (by kernel_rfl) ⟨_, rfl, rfl, rfl, fun _ _ => by simp [go_sem]⟩ ⟨_, rfl, rfl, rfl, rfl⟩ (by kernel_rfl) (by kernel_rfl) (by kernel_rfl) ?_
 apply Exists.intro
 refine ⟨?_, ?_⟩
 ·intro W hW
  try (have ci := fun x => xcell hW (w.heap.size) (by go_size) x 0; simp [go_sem, *] at ci)
  try (have cj := fun x => xcell hW (w.heap.size) (by go_size) x 1; simp [go_sem, *] at cj)
  try (have cl := fun x => xcell hW (w.heap.size + 1) (by go_size) x 0; simp [go_sem, *] at cl)
  try (have cn := fun x => xcell hW (w.heap.size + 1) (by go_size) x 1; simp [go_sem, *] at cn)
  try (have co := fun x => xcell hW (w.heap.size + 1) (by go_size) x 2; simp [go_sem, *] at co)
  try (have cp := fun x => xcell hW (w.heap.size + 1 + 1) (by go_size) x 0; simp [go_sem, *] at cp)
  try (have cq := fun x => xcell hW (w.heap.size + 1 + 1) (by go_size) x 1; simp [go_sem, *] at cq)
  try (have cr := fun x => xcell hW (w.heap.size + 1 + 1) (by go_size) x 2; simp [go_sem, *] at cr)
  try (have ct := fun x => xcell hW (w.heap.size + 1 + 1 + 1) (by go_size) x 0; simp [go_sem, *] at ct)
  try (have cu := fun x => xcell hW (w.heap.size + 1 + 1 + 1) (by go_size) x 1; simp [go_sem, *] at cu)
  try (have cw := fun x => xcell hW (w.heap.size + 1 + 1 + 1) (by go_size) x 2; simp [go_sem, *] at cw)
  try (have cx := fun x => xcell hW (w.heap.size + 1 + 1 + 1) (by go_size) x 3; simp [go_sem, *] at cx)
  simp only [List.take_succ_cons, List.take_zero]
  repeat (go_big_quiet_step ((first | (go_at_call 29; (with_reducible exact draw_of _ ((TM _).out))) | (go_at_call 28; (with_reducible exact draw_of _ ((TQ _).out))))))
  exact wpQuiet_nil rfl
 refine ⟨_, rfl, rfl, by simp [Value.oneCell'], ?_⟩
 intro g6 w6 hb6 hg6 hk6
 try simp only [sA, sB, sC, sD] at hg6
 try have Yl : w.heap.size < g6 := by omega
 try have Ym : w.heap.size + 1 < g6 := by omega
 try have Yn : w.heap.size + 1 + 1 < g6 := by omega
 try have Yo : w.heap.size + 1 + 1 + 1 < g6 := by omega
 simp only [List.drop_succ_cons, List.drop_zero, Act.put, List.setIfInBounds_toArray, List.set_cons_succ, List.set_cons_zero]
 have hz6 := hb6.size
 (try simp only [sA, sB, sC, sD] at hz6)
 (try (obtain ⟨kq, Xe⟩ := cfAt hb6 (w.heap.size); have cy := kq 0; have cz := kq 1; clear kq; simp [go_sem, *] at cy cz Xe))
 (try have Wi : w.heap.size < w6.heap.size := by omega)
 (try (obtain ⟨kq, Xf⟩ := cfAt hb6 (w.heap.size + 1); have nc := kq 0; have nd := kq 1; have nf := kq 2; clear kq; simp [go_sem, *] at nc nd nf Xf))
 (try have Wj : w.heap.size + 1 < w6.heap.size := by omega)
 (try (obtain ⟨kq, Xg⟩ := cfAt hb6 (w.heap.size + 1 + 1); have ng := kq 0; have nh := kq 1; have ni := kq 2; clear kq; simp [go_sem, *] at ng nh ni Xg))
 (try have Wk : w.heap.size + 1 + 1 < w6.heap.size := by omega)
 (try (obtain ⟨kq, Xh⟩ := cfAt hb6 (w.heap.size + 1 + 1 + 1); have nj := kq 0; have nk := kq 1; have nl := kq 2; have nm := kq 3; clear kq; simp [go_sem, *] at nj nk nl nm Xh))
 (try have Wl : w.heap.size + 1 + 1 + 1 < w6.heap.size := by omega)
 (try clear vp vq bi)
 (try clear Xa)
 (try clear vr vt vu bj)
 (try clear Xb)
 (try clear vv vw vy bk)
 (try clear Xc)
 (try clear wc wd wg wi bm)
 (try clear Xd)
 (try clear Za Zb Wm)
 (try clear Wn)
 (try clear Zc Zd Ze Wo)
 (try clear Wp)
 (try clear Zf Zg Zh Wq)
 (try clear Wr)
 (try clear Zi Zj Zk Zl Ws)
 (try clear Wt)
 (try clear Zm Zn Wu)
 (try clear Wv)
 (try clear Zo Zp Zq Ww)
 (try clear Wy)
 (try clear Zr Zs Zt Wz)
 (try clear Ua)
 (try clear Zu Zv Zw Zx Ub)
 (try clear Uc)
 (try clear Zy Zz Ud)
 (try clear Ue)
 (try clear Ja Jb Jc Uf)
 (try clear Ug)
 (try clear Jd Je Jf Uh)
 (try clear Ui)
 (try clear Jg Jh Ji Jj Uj)
 (try clear Uk)
 have kg6 := blk_cell hk6
 have fg6 := blk_frozen hk6
 have lg6 := blk_lt hk6
 have zg := (hb6.block (w.heap.size) (blk_lt' zb.out)).trans zb.out
 clear ko kp mw zb
 obtain ⟨ph, pi, Qb, Gw⟩ := bk2 zg
 replace zg := Lib.hid zg
 have zh := (hb6.block (w.heap.size + 1) (blk_lt' zc.out)).trans zc.out
 clear kr ks kt mx zc
 obtain ⟨pj, pk, pm, Qc, Gx⟩ := bk3 zh
 replace zh := Lib.hid zh
 have zi := (hb6.block (w.heap.size + 1 + 1) (blk_lt' zd.out)).trans zd.out
 clear ku kw kx my zd
 obtain ⟨pn, po, pp, Qd, Gy⟩ := bk3 zi
 replace zi := Lib.hid zi
 have zj := (hb6.block (w.heap.size + 1 + 1 + 1) (blk_lt' ze.out)).trans ze.out
 clear ky kz pc pd mz ze
 obtain ⟨pq, pr, pt, pu, Qe, Gz⟩ := bk4 zj
 replace zj := Lib.hid zj
 have zk := (hb6.block (gs) (blk_lt' zf.out)).trans zf.out
 clear pe pf pg Qa zf
 obtain ⟨pv, pw, px, Qf, Ha⟩ := bk3 zk
 replace zk := Lib.hid zk
 have hB6 : Below w.heap.size w w6 := below_via hb6 (by assumption) (by go_size)
 clear TM TQ
 go_upto_region 5 with fail
 replace zg := zg.out
 replace zh := zh.out
 replace zi := zi.out
 replace zj := zj.out
 replace zk := zk.out
 refine chk (fun W => Below w.heap.size w W ∧ W.heap[w.heap.size]? = some (.cells #[.int .i64 A, .int .i64 B] 32 (0, 0)) ∧ W.heap[w.heap.size + 1]? = some (.cells #[.int .i64 x1, .int .i64 y1, .int .i64 e1] 34 (0, 0)) ∧ W.heap[w.heap.size + 1 + 1]? = some (.cells #[.int .i64 x2, .int .i64 y2, .int .i64 e2] 34 (0, 0)) ∧ W.heap[w.heap.size + 1 + 1 + 1]? = some (.cells #[.int .i64 0, .int .i64 0, .int .i64 0, .int .i64 0] 29 (0, 0)) ∧ W.heap[gs]? = some (.cells #[.int .i64 s1, .int .i64 s2, .int .i64 s3] 34 (0, 0)) ∧ W.heap[g6]? = some (.cells #[.int .i64 t1, .int .i64 t2, .int .i64 t3] 34 (0, 0))) (by refine ⟨?_, ?_, ?_, ?_, ?_, ?_, ?_⟩ <;> (exact ck)) ?_
 clear ph pi Qb zg
 clear pj pk pm Qc zh
 clear pn po pp Qd zi
 clear pq pr pt pu Qe zj
 clear pv pw px Qf zk
 clear hB6
 rintro w7 ⟨hB7, zm, zn, zo, qt, zp, zq⟩
 obtain ⟨dc, de, Qg, Hb⟩ := bk2 zm
 replace zm := Lib.hid zm
 obtain ⟨df, dg, dh, Qh, Hc⟩ := bk3 zn
 replace zn := Lib.hid zn
 obtain ⟨di, dj, dk, Qi, Hd⟩ := bk3 zo
 replace zo := Lib.hid zo
 obtain ⟨zx, zy, ja, jb, Qj, He⟩ := bk4 qt
 replace qt := Lib.hid qt
 obtain ⟨dl, dm, dn, Qk, Hf⟩ := bk3 zp
 replace zp := Lib.hid zp
 obtain ⟨dq, dr, dt, Ql, Hg⟩ := bk3 zq
 replace zq := Lib.hid zq
 clear hk6
 generalize g6 = gd at *
 cases so
 ·have hz := HP.out
  rw [Bool.false_and, if_neg (by simp)] at hz
  unfold ivZ at hz
  obtain ⟨rfl, rfl, rfl, rfl, rfl⟩ : r1 = 0 ∧ r2 = 0 ∧ r3 = 0 ∧ r4 = 0 ∧ r5 = false := by simpa using hz
  clear hz HP
  go_upto_region 6 with fail
  iterate 40 (first | (with_reducible show bodyPost _ _ _ _ _ _) | (with_reducible refine wp_ret ?_) | go_values | go_skip | go_guarded | go_step | go_upon | go_back | skip)
  refine bodyPost_ret (v := .tuple #[.agg #[.int .i64 0, .int .i64 0, .int .i64 0, .int .i64 0], .bool false]) (by simp [results, Tryz.results15, go_sem, zx, zy, ja, jb]) rfl ⟨rfl, ?_⟩
  have HO := qt.out
  (exact ck)
 cases to'
 ·have hz := HP.out
  rw [Bool.and_false, if_neg (by simp)] at hz
  unfold ivZ at hz
  obtain ⟨rfl, rfl, rfl, rfl, rfl⟩ : r1 = 0 ∧ r2 = 0 ∧ r3 = 0 ∧ r4 = 0 ∧ r5 = false := by simpa using hz
  clear hz HP
  go_upto_region 6 with fail
  iterate 40 (first | (with_reducible show bodyPost _ _ _ _ _ _) | (with_reducible refine wp_ret ?_) | go_values | go_skip | go_guarded | go_step | go_upon | go_back | skip)
  refine bodyPost_ret (v := .tuple #[.agg #[.int .i64 0, .int .i64 0, .int .i64 0, .int .i64 0], .bool false]) (by simp [results, Tryz.results15, go_sem, zx, zy, ja, jb]) rfl ⟨rfl, ?_⟩
  have HO := qt.out
  (exact ck)
 have hsp : pqB A B s1 s2 s3 = true := by
  rcases OK1.out with h | h
  ·exact pq_of H1.out h.2
  ·simp at h
 have htp : pqB A B t1 t2 t3 = true := by
  rcases OK2.out with h | h
  ·exact pq_of H1.out h.2
  ·simp at h
 have hpv := HP.out
 rw [Bool.and_self, if_pos rfl, gp_prog] at hpv
 have bp := B_bd H1.out
 have bq := B_bd H2.out
 have bs := B_bd hsp
 have bt := B_bd htp
 have TA0 := fun (v : Bool) (gp : Nat) (W : World) (hp : W.heap[gp]? = some (.cells #[.bool v] 59 (0, 0))) => spbest_any v W gp hp H1.out
 have TB0 := fun (v : Bool) (gp : Nat) (W : World) (hp : W.heap[gp]? = some (.cells #[.bool v] 59 (0, 0))) => spbest_any v W gp hp H2.out
 have TC0 := fun (v : Bool) (gp : Nat) (W : World) (hp : W.heap[gp]? = some (.cells #[.bool v] 59 (0, 0))) => spbest_any v W gp hp hsp
 have TD0 := fun (v : Bool) (gp : Nat) (W : World) (hp : W.heap[gp]? = some (.cells #[.bool v] 59 (0, 0))) => spbest_any v W gp hp htp
 generalize BK A B x1 e1 = k1 at *
 generalize BK A B x2 e2 = k2 at *
 generalize BK A B s1 s3 = k3 at *
 generalize BK A B t1 t3 = k4 at *
 generalize BL A B x1 e1 = l1 at *
 generalize BH A B x1 e1 = u1 at *
 generalize BL A B x2 e2 = l2 at *
 generalize BH A B x2 e2 = u2 at *
 generalize BL A B s1 s3 = l3 at *
 generalize BH A B s1 s3 = u3 at *
 generalize BL A B t1 t3 = l4 at *
 generalize BH A B t1 t3 = u4 at *
 have HPV := Lib.hid hpv
 clear hpv HP OK1 OK2 H1 H2 hsp htp
 go_upto_region 8 with fail
 have hF0 := heap_alloc_new w7 (.cells #[.bool true] 59)
 replace zm := zm.out
 replace zn := zn.out
 replace zo := zo.out
 replace qt := qt.out
 replace zp := zp.out
 replace zq := zq.out
 refine chk (fun W => Below w.heap.size w W ∧ W.heap[w.heap.size]? = some (.cells #[.int .i64 A, .int .i64 B] 32 (0, 0)) ∧ W.heap[w.heap.size + 1]? = some (.cells #[.int .i64 x1, .int .i64 y1, .int .i64 e1] 34 (0, 0)) ∧ W.heap[w.heap.size + 1 + 1]? = some (.cells #[.int .i64 x2, .int .i64 y2, .int .i64 e2] 34 (0, 0)) ∧ W.heap[w.heap.size + 1 + 1 + 1]? = some (.cells #[.int .i64 0, .int .i64 0, .int .i64 0, .int .i64 0] 29 (0, 0)) ∧ W.heap[gs]? = some (.cells #[.int .i64 s1, .int .i64 s2, .int .i64 s3] 34 (0, 0)) ∧ W.heap[gd]? = some (.cells #[.int .i64 t1, .int .i64 t2, .int .i64 t3] 34 (0, 0)) ∧ W.heap[w7.heap.size]? = some (.cells #[.bool true] 59 (0, 0)) ∧ w.heap.size + 1 + 1 + 1 < w7.heap.size ∧ gs < w7.heap.size ∧ gd < w7.heap.size) (by refine ⟨?_, ?_, ?_, ?_, ?_, ?_, ?_, ?_, ?_, ?_⟩ <;> (exact ck)) ?_
 clear dc de Qg zm
 clear df dg dh Qh zn
 clear di dj dk Qi zo
 clear zx zy ja jb Qj qt
 clear dl dm dn Qk zp
 clear dq dr dt Ql zq
 clear hB7
 rintro w8 ⟨hB8, xf, zr, zt, xg, xh, xi, xj, hfz, hgz⟩
 obtain ⟨yc, yd, Qm, Qn⟩ := bk2 xf
 replace xf := Lib.hid xf
 obtain ⟨ye, yf, yg, Qo, fk⟩ := bk3 zr
 replace zr := Lib.hid zr
 obtain ⟨yh, yi, yj, Qp, fl⟩ := bk3 zt
 replace zt := Lib.hid zt
 obtain ⟨du, dv, dw, dx, Qq, Hh⟩ := bk4 xg
 replace xg := Lib.hid xg
 obtain ⟨fa, fb, fc, Qr, Hi⟩ := bk3 xh
 replace xh := Lib.hid xh
 obtain ⟨fd, fe, ff, Qs, Hj⟩ := bk3 xi
 replace xi := Lib.hid xi
 obtain ⟨fh, Qt, Xw⟩ := bk1 xj
 replace xj := Lib.hid xj
 clear hF0
 generalize w7.heap.size = gf at *
 go_cut [13, 14] (fun s13 s14 wx => ∃ ga gb : Nat, s13 = .pointer (some ⟨ga, 0, none⟩) ∧ s14 = .pointer (some ⟨gb, 0, none⟩) ∧ ga ≠ gb ∧ ga ≠ gf ∧ gb ≠ gf ∧ gf < ga ∧ gf < gb ∧
  wx.heap[ga]? = some (.cells #[.int .i64 (kpV k1 l1), .int .i64 (kpV k1 u1)] 44 (0, 0)) ∧ wx.heap[gb]? = some (.cells #[.int .i64 (kpV (k1 && k2) l2), .int .i64 (kpV (k1 && k2) u2)] 44 (0, 0)) ∧
  wx.heap[gf]? = some (.cells #[.bool (k1 && k2)] 59 (0, 0)) ∧ CalE 59 w8 wx gf)
 case first =>
  have HF := Lib.hid xj.out
  have TA := fun W hp => Lib.hid (show Calls Tryz.prog 30 #[.pointer (some ⟨gf, 0, none⟩), .agg #[.int .i64 A, .int .i64 B], .agg #[.int .i64 x1, .int .i64 y1, .int .i64 e1]] W (fun r w' => r = .returned (.agg #[.int .i64 (kpV k1 l1), .int .i64 (kpV k1 u1)]) ∧ Cal 59 W w' gf k1) from by simpa only [Bool.true_and] using TA0 true gf W hp)
  have TB := fun W hp => Lib.hid (TB0 k1 gf W hp)
  have HS := Lib.hid (fun (W : World) (hW : CalE 59 w8 W gf) => (⟨hW, (hW.cell _ Qn (by omega) 0).trans yc, (hW.cell _ Qn (by omega) 1).trans yd, (hW.cell _ fk (by omega) 0).trans ye, (hW.cell _ fk (by omega) 1).trans yf, (hW.cell _ fk (by omega) 2).trans yg, (hW.cell _ fl (by omega) 0).trans yh, (hW.cell _ fl (by omega) 1).trans yi, (hW.cell _ fl (by omega) 2).trans yj⟩ : CalE 59 w8 W gf ∧ W.cell? ⟨w.heap.size, 0, none⟩ = some (.int .i64 A) ∧ W.cell? ⟨w.heap.size, 1, none⟩ = some (.int .i64 B) ∧ W.cell? ⟨w.heap.size + 1, 0, none⟩ = some (.int .i64 x1) ∧ W.cell? ⟨w.heap.size + 1, 1, none⟩ = some (.int .i64 y1) ∧ W.cell? ⟨w.heap.size + 1, 2, none⟩ = some (.int .i64 e1) ∧ W.cell? ⟨w.heap.size + 1 + 1, 0, none⟩ = some (.int .i64 x2) ∧ W.cell? ⟨w.heap.size + 1 + 1, 1, none⟩ = some (.int .i64 y2) ∧ W.cell? ⟨w.heap.size + 1 + 1, 2, none⟩ = some (.int .i64 e2)))
  clear TA0 TB0 TC0 TD0
  go_region_held3 (fun W => CalE 59 w8 W gf ∧ W.cell? ⟨w.heap.size, 0, none⟩ = some (.int .i64 A) ∧ W.cell? ⟨w.heap.size, 1, none⟩ = some (.int .i64 B) ∧ W.cell? ⟨w.heap.size + 1, 0, none⟩ = some (.int .i64 x1) ∧ W.cell? ⟨w.heap.size + 1, 1, none⟩ = some (.int .i64 y1) ∧ W.cell? ⟨w.heap.size + 1, 2, none⟩ = some (.int .i64 e1) ∧ W.cell? ⟨w.heap.size + 1 + 1, 0, none⟩ = some (.int .i64 x2) ∧ W.cell? ⟨w.heap.size + 1 + 1, 1, none⟩ = some (.int .i64 y2) ∧ W.cell? ⟨w.heap.size + 1 + 1, 2, none⟩ = some (.int .i64 e2)) (exact HS.out _ clf) (first | (have _t := tok9; go_at_call 30; (with_reducible refine ((TA _ (by first | exact HF.out | exact bx_old HF.out _ | exact bx_old (bx_old HF.out _) _ | exact bx_drew HF.out | exact bx_drew (bx_old HF.out _) | exact bx_drew (bx_old (bx_old HF.out _) _))).out).mono ?_); rintro e w9 ⟨rfl, hb9⟩; clear tok9 _t; have hz9 := hb9.size; (try simp only [sA, sB, sC, sD] at hz9); (try (refine calCell' hb9 (w8.heap.size) 0 ?_ ?_ ?_; (focus (go_size; done)); (focus (omega; done)); intro yk; simp [go_sem, *] at yk)); (try (refine calCell' hb9 (w8.heap.size) 1 ?_ ?_ ?_; (focus (go_size; done)); (focus (omega; done)); intro yl; simp [go_sem, *] at yl)); (try (refine calFroz' hb9 (w8.heap.size) ?_ ?_ ?_; (focus (go_size; done)); (focus (omega; done)); intro fi; simp [go_sem, *] at fi)); (try (refine (fun (Qu : w8.heap.size < w9.heap.size) => ?_) ?_; rotate_left; (focus (omega; done)))); (try (refine calCell' hb9 (w8.heap.size + 1) 0 ?_ ?_ ?_; (focus (go_size; done)); (focus (omega; done)); intro ym; simp [go_sem, *] at ym)); (try (refine calCell' hb9 (w8.heap.size + 1) 1 ?_ ?_ ?_; (focus (go_size; done)); (focus (omega; done)); intro yn; simp [go_sem, *] at yn)); (try (refine calFroz' hb9 (w8.heap.size + 1) ?_ ?_ ?_; (focus (go_size; done)); (focus (omega; done)); intro fj; simp [go_sem, *] at fj)); (try (refine (fun (Qv : w8.heap.size + 1 < w9.heap.size) => ?_) ?_; rotate_left; (focus (omega; done)))); have kp9 := calAt hb9; have fp9 := calFree hb9; have lp9 := Cal.lt hb9; (try clear kp1); (try clear fp1); (try clear kp2); (try clear fp2); (try clear kp3); (try clear fp3); (try clear kp4); (try clear fp4); (try clear kp5); (try clear fp5); (try clear kp6); (try clear fp6); (try clear kp7); (try clear fp7); (try clear kp8); (try clear fp8)) | (have _t := tok10; go_at_call 30; (with_reducible refine ((TB _ (by first | exact hb9.at_ | exact bx_old hb9.at_ _ | exact bx_old (bx_old hb9.at_ _) _)).out).mono ?_); rintro e w10 ⟨rfl, hb10⟩; clear tok10 _t; have hz10 := hb10.size; (try simp only [sA, sB, sC, sD] at hz10); (try (refine calCell' hb10 (w8.heap.size) 0 ?_ ?_ ?_; (focus (go_size; done)); (focus (omega; done)); intro fm; simp [go_sem, *] at fm)); (try (refine calCell' hb10 (w8.heap.size) 1 ?_ ?_ ?_; (focus (go_size; done)); (focus (omega; done)); intro fn; simp [go_sem, *] at fn)); (try (refine calFroz' hb10 (w8.heap.size) ?_ ?_ ?_; (focus (go_size; done)); (focus (omega; done)); intro np; simp [go_sem, *] at np)); (try (refine (fun (Jk : w8.heap.size < w10.heap.size) => ?_) ?_; rotate_left; (focus (omega; done)))); (try (refine calCell' hb10 (w8.heap.size + 1) 0 ?_ ?_ ?_; (focus (go_size; done)); (focus (omega; done)); intro fo; simp [go_sem, *] at fo)); (try (refine calCell' hb10 (w8.heap.size + 1) 1 ?_ ?_ ?_; (focus (go_size; done)); (focus (omega; done)); intro fp; simp [go_sem, *] at fp)); (try (refine calFroz' hb10 (w8.heap.size + 1) ?_ ?_ ?_; (focus (go_size; done)); (focus (omega; done)); intro nr; simp [go_sem, *] at nr)); (try (refine (fun (Jl : w8.heap.size + 1 < w10.heap.size) => ?_) ?_; rotate_left; (focus (omega; done)))); (try (refine calCell' hb10 (w9.heap.size) 0 ?_ ?_ ?_; (focus (go_size; done)); (focus (omega; done)); intro fq; simp [go_sem, *] at fq)); (try (refine calCell' hb10 (w9.heap.size) 1 ?_ ?_ ?_; (focus (go_size; done)); (focus (omega; done)); intro ft; simp [go_sem, *] at ft)); (try (refine calFroz' hb10 (w9.heap.size) ?_ ?_ ?_; (focus (go_size; done)); (focus (omega; done)); intro nt; simp [go_sem, *] at nt)); (try (refine (fun (Jm : w9.heap.size < w10.heap.size) => ?_) ?_; rotate_left; (focus (omega; done)))); (try (refine calCell' hb10 (w9.heap.size + 1) 0 ?_ ?_ ?_; (focus (go_size; done)); (focus (omega; done)); intro fu; simp [go_sem, *] at fu)); (try (refine calCell' hb10 (w9.heap.size + 1) 1 ?_ ?_ ?_; (focus (go_size; done)); (focus (omega; done)); intro fv; simp [go_sem, *] at fv)); (try (refine calFroz' hb10 (w9.heap.size + 1) ?_ ?_ ?_; (focus (go_size; done)); (focus (omega; done)); intro nu; simp [go_sem, *] at nu)); (try (refine (fun (Jn : w9.heap.size + 1 < w10.heap.size) => ?_) ?_; rotate_left; (focus (omega; done)))); have kp10 := calAt hb10; have fp10 := calFree hb10; have lp10 := Cal.lt hb10; (try clear kp1); (try clear fp1); (try clear kp2); (try clear fp2); (try clear kp3); (try clear fp3); (try clear kp4); (try clear fp4); (try clear kp5); (try clear fp5); (try clear kp6); (try clear fp6); (try clear kp7); (try clear fp7); (try clear kp8); (try clear fp8); (try clear kp9); (try clear fp9); (try clear yk yl fi); (try clear Qu); (try clear ym yn fj); (try clear Qv)))
  all_goals
   go_wp2_with fail
   go_meet
  all_goals
   have hF10 := hb10.at_
   have ln9 := hb9.lt
   try (have za9 : w10.heap[w9.heap.size]? = some (.cells #[.int .i64 0, .int .i64 0] 44) := by first | exact cal_blk hb10 (heap_alloc_new w9 _) (by omega) | exact cal_blk hb10 (bx_old (heap_alloc_new w9 _) _) (by omega) | exact cal_blk hb10 (bx_drew (heap_alloc_new w9 _)) (by omega) | exact cal_blk hb10 (bx_drew (bx_old (heap_alloc_new w9 _) _)) (by omega))
   try (have zb9 : w10.heap[w9.heap.size + 1]? = some (.cells #[.int .i64 0, .int .i64 0] 44) := by first | exact cal_blk hb10 (bx_new (W := w9.alloc _) (by simp)) (by omega) | exact cal_blk hb10 (bx_drew (bx_new (W := w9.alloc _) (by simp))) (by omega))
   try (have ya8 : w9.heap[w8.heap.size]? = some (.cells #[.int .i64 0, .int .i64 0] 44) := by first | exact cal_blk hb9 (heap_alloc_new w8 _) (by omega) | exact cal_blk hb9 (bx_old (heap_alloc_new w8 _) _) (by omega) | exact cal_blk hb9 (bx_drew (heap_alloc_new w8 _)) (by omega) | exact cal_blk hb9 (bx_drew (bx_old (heap_alloc_new w8 _) _)) (by omega))
   try (have yb8 : w9.heap[w8.heap.size + 1]? = some (.cells #[.int .i64 0, .int .i64 0] 44) := by first | exact cal_blk hb9 (bx_new (W := w8.alloc _) (by simp)) (by omega) | exact cal_blk hb9 (bx_drew (bx_new (W := w8.alloc _) (by simp))) (by omega))
   try (have za8 : w10.heap[w8.heap.size]? = some (.cells #[.int .i64 0, .int .i64 0] 44) := by first | exact cal_blk hb10 ya8 (by omega) | exact cal_blk hb10 (bx_old ya8 _) (by omega) | exact cal_blk hb10 (bx_drew (bx_old ya8 _)) (by omega))
   try (have zb8 : w10.heap[w8.heap.size + 1]? = some (.cells #[.int .i64 0, .int .i64 0] 44) := by first | exact cal_blk hb10 yb8 (by omega) | exact cal_blk hb10 (bx_old yb8 _) (by omega) | exact cal_blk hb10 (bx_drew (bx_old yb8 _)) (by omega))
   have lf := Xw
   refine ⟨_, _, rfl, rfl, by omega, by omega, by omega, by omega, by omega, ?_, ?_, ?_, ?_⟩
   ·(exact ck)
   ·(exact ck)
   ·(exact ck)
   ·(exact clf)
 case rest =>
  obtain ⟨ga, gb, rfl, rfl, n1, n2, n3, n4, n5, hga, hgb, hgf, hcE⟩ := hcut
  have hC9 := calE_blk hcE xf.out (by omega)
  have hR9 := calE_blk hcE xg.out (by omega)
  have hS9 := calE_blk hcE xh.out (by omega)
  have hD9 := calE_blk hcE xi.out (by omega)
  have hB9 := hB8.trans (hcE.below hB8.size (by omega))
  go_upto_region 9 with fail
  replace xf := xf.out
  replace zr := zr.out
  replace zt := zt.out
  replace xg := xg.out
  replace xh := xh.out
  replace xi := xi.out
  replace xj := xj.out
  refine chk (fun W => Below w.heap.size w W ∧ W.heap[w.heap.size]? = some (.cells #[.int .i64 A, .int .i64 B] 32 (0, 0)) ∧ W.heap[w.heap.size + 1 + 1 + 1]? = some (.cells #[.int .i64 0, .int .i64 0, .int .i64 0, .int .i64 0] 29 (0, 0)) ∧ W.heap[gs]? = some (.cells #[.int .i64 s1, .int .i64 s2, .int .i64 s3] 34 (0, 0)) ∧ W.heap[gd]? = some (.cells #[.int .i64 t1, .int .i64 t2, .int .i64 t3] 34 (0, 0)) ∧ W.heap[gf]? = some (.cells #[.bool (k1 && k2)] 59 (0, 0)) ∧ W.heap[ga]? = some (.cells #[.int .i64 (kpV k1 l1), .int .i64 (kpV k1 u1)] 44 (0, 0)) ∧ W.heap[gb]? = some (.cells #[.int .i64 (kpV (k1 && k2) l2), .int .i64 (kpV (k1 && k2) u2)] 44 (0, 0))) (by refine ⟨?_, ?_, ?_, ?_, ?_, ?_, ?_, ?_⟩ <;> (exact ck)) ?_
  clear yc yd Qm xf
  clear ye yf yg Qo zr
  clear yh yi yj Qp zt
  clear du dv dw dx Qq xg
  clear fa fb fc Qr xh
  clear fd fe ff Qs xi
  clear fh Qt xj
  clear hB8
  rintro w20 ⟨hB20, xm, qn, xn, xo, qx, qo, qq⟩
  obtain ⟨wj, wk, Xi, bn⟩ := bk2 xm
  replace xm := Lib.hid xm
  obtain ⟨wl, wm, wn, wq, br, Ul⟩ := bk4 qn
  replace qn := Lib.hid qn
  obtain ⟨ws, wt, wu, Xj, wv⟩ := bk3 xn
  replace xn := Lib.hid xn
  obtain ⟨ww, wy, wz, Xk, uc⟩ := bk3 xo
  replace xo := Lib.hid xo
  obtain ⟨nx, Xl, Xm⟩ := bk1 qx
  replace qx := Lib.hid qx
  obtain ⟨ud, ue, bu, Um⟩ := bk2 qo
  replace qo := Lib.hid qo
  obtain ⟨uf, ug, bw, Un⟩ := bk2 qq
  replace qq := Lib.hid qq
  clear hC9 hR9 hS9 hD9 hga hgb hgf hcE
  go_cut [15] (fun s15 wx => ∃ gg : Nat, s15 = .pointer (some ⟨gg, 0, none⟩) ∧ w20.heap.size ≤ gg ∧
   wx.heap[gg]? = some (.cells #[.int .i64 (guA k1 k2 k3 k4 l3 u3 l4 u4), .int .i64 (guB k1 k2 k3 k4 l3 u3 l4 u4)] 44 (0, 0)) ∧
   wx.heap[gf]? = some (.cells #[.bool (guV k1 k2 k3 k4 l3 u3 l4 u4)] 59 (0, 0)) ∧ CalE 59 w20 wx gf)
  case first =>
   (try clear yr); (try clear yt); (try clear fw); (try clear qu); (try clear yu); (try clear yv); (try clear yw); (try clear ba); (try clear qv); (try clear yx); (try clear yz); (try clear va)
   (try clear bc); (try clear qw); (try clear qj); (try clear qk); (try clear ql); (try clear qm); (try clear qi); (try clear qd); (try clear Jo); (try clear Jp); (try clear Jq); (try clear Uo)
   (try clear Up); (try clear Jr); (try clear Js); (try clear Jt); (try clear Uq); (try clear Ur); (try clear zu); (try clear bx); (try clear qr); (try clear uw); (try clear uy); (try clear ml)
   (try clear xv); (try clear gc); (try clear ge); (try clear gh); (try clear mn); (try clear xw); (try clear gk); (try clear gm); (try clear gn); (try clear mo); (try clear xy); (try clear gr)
   (try clear gt); (try clear gu); (try clear gy); (try clear mp); (try clear za); (try clear Yp); (try clear Yq); (try clear Yr); (try clear Hk); (try clear Hl); (try clear Ys); (try clear Yt)
   (try clear Yu); (try clear Hm); (try clear Hn); (try clear Yv); (try clear Ho); (try clear Hp); (try clear ka); (try clear kb); (try clear mq); (try clear qz); (try clear kc); (try clear kd)
   (try clear ke); (try clear mr); (try clear xc); (try clear kf); (try clear kh); (try clear ki); (try clear mu); (try clear xd); (try clear kj); (try clear kl); (try clear km); (try clear kn)
   (try clear mv); (try clear xe); (try clear Yw); (try clear Yx); (try clear Yy); (try clear Hq); (try clear Hr); (try clear Yz); (try clear Va); (try clear Vb); (try clear Hs); (try clear Ht)
   (try clear Vc); (try clear Hu); (try clear Hv); (try clear Vd); (try clear Ve); (try clear Hw); (try clear Hx); (try clear Vf); (try clear Vg); (try clear Vh); (try clear Hy); (try clear Hz)
   (try clear Vi); (try clear Vj); (try clear Vk); (try clear Ka); (try clear Kb); (try clear Vl); (try clear Vm); (try clear Vn); (try clear Vo); (try clear Kc); (try clear Kd); (try clear Vp)
   (try clear Vq); (try clear Vr); (try clear Ke); (try clear Kf); (try clear Vs); (try clear Vt); (try clear Vu); (try clear Kg); (try clear Kh); (try clear Vv); (try clear Ki); (try clear Kj)
   (try clear ko); (try clear kp); (try clear mw); (try clear zb); (try clear kr); (try clear ks); (try clear kt); (try clear mx); (try clear zc); (try clear ku); (try clear kw); (try clear kx)
   (try clear my); (try clear zd); (try clear ky); (try clear kz); (try clear pc); (try clear pd); (try clear mz); (try clear ze); (try clear pe); (try clear pf); (try clear pg); (try clear Qa)
   (try clear zf); (try clear Vw); (try clear Vx); (try clear Vy); (try clear Kk); (try clear Kl); (try clear Vz); (try clear Km); (try clear Kn); (try clear ph); (try clear pi); (try clear Qb)
   (try clear zg); (try clear pj); (try clear pk); (try clear pm); (try clear Qc); (try clear zh); (try clear pn); (try clear po); (try clear pp); (try clear Qd); (try clear zi); (try clear pq)
   (try clear pr); (try clear pt); (try clear pu); (try clear Qe); (try clear zj); (try clear pv); (try clear pw); (try clear px); (try clear Qf); (try clear zk); (try clear Wa); (try clear Wb)
   (try clear Wc); (try clear Ko); (try clear Kp); (try clear Wd); (try clear Kq); (try clear Kr); (try clear dc); (try clear de); (try clear Qg); (try clear zm); (try clear df); (try clear dg)
   (try clear dh); (try clear Qh); (try clear zn); (try clear di); (try clear dj); (try clear dk); (try clear Qi); (try clear zo); (try clear zx); (try clear zy); (try clear ja); (try clear jb)
   (try clear Qj); (try clear qt); (try clear dl); (try clear dm); (try clear dn); (try clear Qk); (try clear zp); (try clear dq); (try clear dr); (try clear dt); (try clear Ql); (try clear zq)
   (try clear We); (try clear Ks); (try clear Kt); (try clear yc); (try clear yd); (try clear Qm); (try clear xf); (try clear ye); (try clear yf); (try clear yg); (try clear Qo); (try clear zr)
   (try clear yh); (try clear yi); (try clear yj); (try clear Qp); (try clear zt); (try clear du); (try clear dv); (try clear dw); (try clear dx); (try clear Qq); (try clear xg); (try clear fa)
   (try clear fb); (try clear fc); (try clear Qr); (try clear xh); (try clear fd); (try clear fe); (try clear ff); (try clear Qs); (try clear xi); (try clear fh); (try clear Qt); (try clear xj)
   (try clear wl); (try clear wm); (try clear wn); (try clear wq); (try clear ud); (try clear ue); (try clear uf); (try clear ug); (try clear br); (try clear bu); (try clear bw); (try clear qn)
   (try clear qo); (try clear qq)
   have HF := Lib.hid qx.out
   have TC := fun W hp => Lib.hid (TC0 (k1 && k2) gf W hp)
   have TD := fun W hp => Lib.hid (TD0 ((k1 && k2) && k3) gf W hp)
   have d1 := kp_B (v := ((k1 && k2) && k3)) bs.1
   have d2 := kp_B (v := ((k1 && k2) && k3)) bs.2
   have d3 := kp_B (v := (((k1 && k2) && k3) && k4)) bt.1
   have d4 := kp_B (v := (((k1 && k2) && k3) && k4)) bt.2
   have TG := fun W hp => Lib.hid (show Calls Tryz.prog 31 #[.pointer (some ⟨gf, 0, none⟩), .agg #[.int .i64 (kpV ((k1 && k2) && k3) l3), .int .i64 (kpV ((k1 && k2) && k3) u3)], .agg #[.int .i64 (kpV (((k1 && k2) && k3) && k4) l4), .int .i64 (kpV (((k1 && k2) && k3) && k4) u4)]] W (fun e w' => e = .returned (.agg #[.int .i64 (guA k1 k2 k3 k4 l3 u3 l4 u4), .int .i64 (guB k1 k2 k3 k4 l3 u3 l4 u4)]) ∧ Cal 59 W w' gf (guV k1 k2 k3 k4 l3 u3 l4 u4)) from spplus_any (kpV ((k1 && k2) && k3) l3) (kpV ((k1 && k2) && k3) u3) (kpV (((k1 && k2) && k3) && k4) l4) (kpV (((k1 && k2) && k3) && k4) u4) (((k1 && k2) && k3) && k4) W gf hp (by omega) (by omega) (by omega) (by omega))
   have HS := Lib.hid (fun (W : World) (hW : CalE 59 w20 W gf) => (⟨hW, (hW.cell _ bn (by omega) 0).trans wj, (hW.cell _ bn (by omega) 1).trans wk, (hW.cell _ wv (by omega) 0).trans ws, (hW.cell _ wv (by omega) 1).trans wt, (hW.cell _ wv (by omega) 2).trans wu, (hW.cell _ uc (by omega) 0).trans ww, (hW.cell _ uc (by omega) 1).trans wy, (hW.cell _ uc (by omega) 2).trans wz⟩ : CalE 59 w20 W gf ∧ W.cell? ⟨w.heap.size, 0, none⟩ = some (.int .i64 A) ∧ W.cell? ⟨w.heap.size, 1, none⟩ = some (.int .i64 B) ∧ W.cell? ⟨gs, 0, none⟩ = some (.int .i64 s1) ∧ W.cell? ⟨gs, 1, none⟩ = some (.int .i64 s2) ∧ W.cell? ⟨gs, 2, none⟩ = some (.int .i64 s3) ∧ W.cell? ⟨gd, 0, none⟩ = some (.int .i64 t1) ∧ W.cell? ⟨gd, 1, none⟩ = some (.int .i64 t2) ∧ W.cell? ⟨gd, 2, none⟩ = some (.int .i64 t3)))
   have lF := Xm
   clear TA0 TB0 TC0 TD0 d1 d2 d3 d4 HPV
   go_region_held3 (fun W => CalE 59 w20 W gf ∧ W.cell? ⟨w.heap.size, 0, none⟩ = some (.int .i64 A) ∧ W.cell? ⟨w.heap.size, 1, none⟩ = some (.int .i64 B) ∧ W.cell? ⟨gs, 0, none⟩ = some (.int .i64 s1) ∧ W.cell? ⟨gs, 1, none⟩ = some (.int .i64 s2) ∧ W.cell? ⟨gs, 2, none⟩ = some (.int .i64 s3) ∧ W.cell? ⟨gd, 0, none⟩ = some (.int .i64 t1) ∧ W.cell? ⟨gd, 1, none⟩ = some (.int .i64 t2) ∧ W.cell? ⟨gd, 2, none⟩ = some (.int .i64 t3)) (exact HS.out _ clf) (first | (have _t := tok21; go_at_call 30; (with_reducible refine ((TC _ (by first | exact HF.out | exact bx_old HF.out _ | exact bx_drew HF.out | exact bx_drew (bx_old HF.out _))).out).mono ?_); rintro e w21 ⟨rfl, hb21⟩; clear tok21 _t; have hz21 := hb21.size; (try simp only [sA, sB, sC, sD] at hz21); (try (refine calCell' hb21 (w20.heap.size) 0 ?_ ?_ ?_; (focus (go_size; done)); (focus (omega; done)); intro xk; simp [go_sem, *] at xk)); (try (refine calCell' hb21 (w20.heap.size) 1 ?_ ?_ ?_; (focus (go_size; done)); (focus (omega; done)); intro xl; simp [go_sem, *] at xl)); (try (refine calFroz' hb21 (w20.heap.size) ?_ ?_ ?_; (focus (go_size; done)); (focus (omega; done)); intro zv; simp [go_sem, *] at zv)); (try (refine (fun (yo : w20.heap.size < w21.heap.size) => ?_) ?_; rotate_left; (focus (omega; done)))); have kp21 := calAt hb21; have fp21 := calFree hb21; have lp21 := Cal.lt hb21; (try clear kp1); (try clear fp1); (try clear kp2); (try clear fp2); (try clear kp3); (try clear fp3); (try clear kp4); (try clear fp4); (try clear kp5); (try clear fp5); (try clear kp6); (try clear fp6); (try clear kp7); (try clear fp7); (try clear kp8); (try clear fp8); (try clear kp9); (try clear fp9); (try clear kp10); (try clear fp10); (try clear kp11); (try clear fp11); (try clear kp12); (try clear fp12); (try clear kp13); (try clear fp13); (try clear kp14); (try clear fp14); (try clear kp15); (try clear fp15); (try clear kp16); (try clear fp16); (try clear kp17); (try clear fp17); (try clear kp18); (try clear fp18); (try clear kp19); (try clear fp19); (try clear kp20); (try clear fp20)) | (have _t := tok22; go_at_call 30; (with_reducible refine ((TD _ (by first | exact hb21.at_ | exact bx_old hb21.at_ _ | exact bx_drew hb21.at_ | exact bx_drew (bx_old hb21.at_ _))).out).mono ?_); rintro e w22 ⟨rfl, hb22⟩; clear tok22 _t; have hz22 := hb22.size; (try simp only [sA, sB, sC, sD] at hz22); (try (refine calCell' hb22 (w20.heap.size) 0 ?_ ?_ ?_; (focus (go_size; done)); (focus (omega; done)); intro jc; simp [go_sem, *] at jc)); (try (refine calCell' hb22 (w20.heap.size) 1 ?_ ?_ ?_; (focus (go_size; done)); (focus (omega; done)); intro jd; simp [go_sem, *] at jd)); (try (refine calFroz' hb22 (w20.heap.size) ?_ ?_ ?_; (focus (go_size; done)); (focus (omega; done)); intro yp; simp [go_sem, *] at yp)); (try (refine (fun (cd : w20.heap.size < w22.heap.size) => ?_) ?_; rotate_left; (focus (omega; done)))); (try (refine calCell' hb22 (w21.heap.size) 0 ?_ ?_ ?_; (focus (go_size; done)); (focus (omega; done)); intro je; simp [go_sem, *] at je)); (try (refine calCell' hb22 (w21.heap.size) 1 ?_ ?_ ?_; (focus (go_size; done)); (focus (omega; done)); intro jf; simp [go_sem, *] at jf)); (try (refine calFroz' hb22 (w21.heap.size) ?_ ?_ ?_; (focus (go_size; done)); (focus (omega; done)); intro yq; simp [go_sem, *] at yq)); (try (refine (fun (ce : w21.heap.size < w22.heap.size) => ?_) ?_; rotate_left; (focus (omega; done)))); have kp22 := calAt hb22; have fp22 := calFree hb22; have lp22 := Cal.lt hb22; (try clear kp1); (try clear fp1); (try clear kp2); (try clear fp2); (try clear kp3); (try clear fp3); (try clear kp4); (try clear fp4); (try clear kp5); (try clear fp5); (try clear kp6); (try clear fp6); (try clear kp7); (try clear fp7); (try clear kp8); (try clear fp8); (try clear kp9); (try clear fp9); (try clear kp10); (try clear fp10); (try clear kp11); (try clear fp11); (try clear kp12); (try clear fp12); (try clear kp13); (try clear fp13); (try clear kp14); (try clear fp14); (try clear kp15); (try clear fp15); (try clear kp16); (try clear fp16); (try clear kp17); (try clear fp17); (try clear kp18); (try clear fp18); (try clear kp19); (try clear fp19); (try clear kp20); (try clear fp20); (try clear kp21); (try clear fp21); (try clear xk xl zv); (try clear yo)) | (have _t := tok23; go_at_call 31; (with_reducible refine ((TG _ (by first | exact hb22.at_ | exact bx_old hb22.at_ _ | exact bx_drew hb22.at_ | exact bx_drew (bx_old hb22.at_ _))).out).mono ?_); rintro e w23 ⟨rfl, hb23⟩; clear tok23 _t; have hz23 := hb23.size; (try simp only [sA, sB, sC, sD] at hz23); (try (refine calCell' hb23 (w20.heap.size) 0 ?_ ?_ ?_; (focus (go_size; done)); (focus (omega; done)); intro un; simp [go_sem, *] at un)); (try (refine calCell' hb23 (w20.heap.size) 1 ?_ ?_ ?_; (focus (go_size; done)); (focus (omega; done)); intro uo; simp [go_sem, *] at uo)); (try (refine calFroz' hb23 (w20.heap.size) ?_ ?_ ?_; (focus (go_size; done)); (focus (omega; done)); intro cf; simp [go_sem, *] at cf)); (try (refine (fun (Xx : w20.heap.size < w23.heap.size) => ?_) ?_; rotate_left; (focus (omega; done)))); (try (refine calCell' hb23 (w21.heap.size) 0 ?_ ?_ ?_; (focus (go_size; done)); (focus (omega; done)); intro uq; simp [go_sem, *] at uq)); (try (refine calCell' hb23 (w21.heap.size) 1 ?_ ?_ ?_; (focus (go_size; done)); (focus (omega; done)); intro ur; simp [go_sem, *] at ur)); (try (refine calFroz' hb23 (w21.heap.size) ?_ ?_ ?_; (focus (go_size; done)); (focus (omega; done)); intro cg; simp [go_sem, *] at cg)); (try (refine (fun (Xy : w21.heap.size < w23.heap.size) => ?_) ?_; rotate_left; (focus (omega; done)))); (try (refine calCell' hb23 (w22.heap.size) 0 ?_ ?_ ?_; (focus (go_size; done)); (focus (omega; done)); intro us; simp [go_sem, *] at us)); (try (refine calCell' hb23 (w22.heap.size) 1 ?_ ?_ ?_; (focus (go_size; done)); (focus (omega; done)); intro ut; simp [go_sem, *] at ut)); (try (refine calFroz' hb23 (w22.heap.size) ?_ ?_ ?_; (focus (go_size; done)); (focus (omega; done)); intro ch; simp [go_sem, *] at ch)); (try (refine (fun (Xz : w22.heap.size < w23.heap.size) => ?_) ?_; rotate_left; (focus (omega; done)))); have kp23 := calAt hb23; have fp23 := calFree hb23; have lp23 := Cal.lt hb23; (try clear kp1); (try clear fp1); (try clear kp2); (try clear fp2); (try clear kp3); (try clear fp3); (try clear kp4); (try clear fp4); (try clear kp5); (try clear fp5); (try clear kp6); (try clear fp6); (try clear kp7); (try clear fp7); (try clear kp8); (try clear fp8); (try clear kp9); (try clear fp9); (try clear kp10); (try clear fp10); (try clear kp11); (try clear fp11); (try clear kp12); (try clear fp12); (try clear kp13); (try clear fp13); (try clear kp14); (try clear fp14); (try clear kp15); (try clear fp15); (try clear kp16); (try clear fp16); (try clear kp17); (try clear fp17); (try clear kp18); (try clear fp18); (try clear kp19); (try clear fp19); (try clear kp20); (try clear fp20); (try clear kp21); (try clear fp21); (try clear kp22); (try clear fp22); (try clear xk xl zv); (try clear yo); (try clear jc jd yp); (try clear cd); (try clear je jf yq); (try clear ce)))
   all_goals
    go_wp2_with fail
    go_meet
   all_goals
    have ln21 := hb21.lt
    have ln22 := hb22.lt
    have ln23 := hb23.lt
    have hF23 := hb23.at_
    have sz21 := hb21.size
    have sz22 := hb22.size
    have sz23 := hb23.size
    try simp only [World.size_alloc, World.size_drew] at sz21 sz22 sz23
    try (have z21 : w21.heap[w20.heap.size]? = some (.cells #[.int .i64 0, .int .i64 0] 44) := by first | exact cal_blk hb21 (heap_alloc_new w20 _) (by omega) | exact cal_blk hb21 (bx_drew (heap_alloc_new w20 _)) (by omega))
    try (have z22 : w22.heap[w20.heap.size]? = some (.cells #[.int .i64 0, .int .i64 0] 44) := by first | exact cal_blk hb22 z21 (by omega) | exact cal_blk hb22 (bx_drew z21) (by omega))
    try (have z23 : w23.heap[w20.heap.size]? = some (.cells #[.int .i64 0, .int .i64 0] 44) := by first | exact cal_blk hb23 z22 (by omega) | exact cal_blk hb23 (bx_drew z22) (by omega))
    try (have y22 : w22.heap[w21.heap.size]? = some (.cells #[.int .i64 0, .int .i64 0] 44) := by first | exact cal_blk hb22 (heap_alloc_new w21 _) (by omega) | exact cal_blk hb22 (bx_drew (heap_alloc_new w21 _)) (by omega))
    try (have y23 : w23.heap[w21.heap.size]? = some (.cells #[.int .i64 0, .int .i64 0] 44) := by first | exact cal_blk hb23 y22 (by omega) | exact cal_blk hb23 (bx_drew y22) (by omega))
    try (have x23 : w23.heap[w22.heap.size]? = some (.cells #[.int .i64 0, .int .i64 0] 44) := by first | exact cal_blk hb23 (heap_alloc_new w22 _) (by omega) | exact cal_blk hb23 (bx_drew (heap_alloc_new w22 _)) (by omega))
    refine ⟨_, rfl, by omega, ?_, ?_, ?_⟩
    ·(exact ck)
    ·(exact ck)
    ·(exact clf)
  case rest =>
   obtain ⟨gg, rfl, m1, hgg, hgf, hcE⟩ := hcut
   have hR9 := calE_blk hcE qn.out (by omega)
   have hU9 := calE_blk hcE qo.out (by omega)
   have hV9 := calE_blk hcE qq.out (by omega)
   have hB9 := hB20.trans (hcE.below hB20.size (by omega))
   have hsb := gu_bd k1 k2 k3 k4 l3 u3 l4 u4
   have cp1 := kp_B (v := k1) bp.1
   have cp2 := kp_B (v := k1) bp.2
   have cq1 := kp_B (v := (k1 && k2)) bq.1
   have cq2 := kp_B (v := (k1 && k2)) bq.2
   have hpv := HPV.out
   rw [show guL k1 k2 k3 k4 l1 u1 l2 u2 l3 u3 l4 u4 = gmK ⟨guV k1 k2 k3 k4 l3 u3 l4 u4, guA k1 k2 k3 k4 l3 u3 l4 u4, guB k1 k2 k3 k4 l3 u3 l4 u4⟩ (kpV k1 l1) (kpV k1 u1) (kpV (k1 && k2) l2) (kpV (k1 && k2) u2) 4 from rfl] at hpv
   generalize kpV k1 l1 = pa at *
   generalize kpV k1 u1 = pb at *
   generalize kpV (k1 && k2) l2 = qa at *
   generalize kpV (k1 && k2) u2 = qb at *
   generalize guV k1 k2 k3 k4 l3 u3 l4 u4 = v0 at *
   generalize guA k1 k2 k3 k4 l3 u3 l4 u4 = a0 at *
   generalize guB k1 k2 k3 k4 l3 u3 l4 u4 = b0 at *
   have HPX := Lib.hid hpv
   have hgb := gmK_bd ⟨v0, a0, b0⟩ hsb pa pb qa qb
   have HGB := Lib.hid hgb
   clear hpv HPV bp bq bs bt hsb hgb
   go_upto_region 10 with fail
   replace xm := xm.out
   replace qn := qn.out
   replace xn := xn.out
   replace xo := xo.out
   replace qx := qx.out
   replace qo := qo.out
   replace qq := qq.out
   refine chk (fun W => Below w.heap.size w W ∧ W.heap[w.heap.size + 1 + 1 + 1]? = some (.cells #[.int .i64 0, .int .i64 0, .int .i64 0, .int .i64 0] 29 (0, 0)) ∧ W.heap[gf]? = some (.cells #[.bool v0] 59 (0, 0)) ∧ W.heap[ga]? = some (.cells #[.int .i64 pa, .int .i64 pb] 44 (0, 0)) ∧ W.heap[gb]? = some (.cells #[.int .i64 qa, .int .i64 qb] 44 (0, 0)) ∧ W.heap[gg]? = some (.cells #[.int .i64 a0, .int .i64 b0] 44 (0, 0))) (by refine ⟨?_, ?_, ?_, ?_, ?_, ?_⟩ <;> (exact ck)) ?_
   clear wj wk Xi xm
   clear wl wm wn wq br qn
   clear ws wt wu Xj xn
   clear ww wy wz Xk xo
   clear nx Xl qx
   clear ud ue bu qo
   clear uf ug bw qq
   clear hB20
   rintro w30 ⟨hB30, xp, xq, xr, xt, xu⟩
   obtain ⟨ny, nz, ma, mb, Xn, Us⟩ := bk4 xp
   replace xp := Lib.hid xp
   obtain ⟨mc, Xo, Ut⟩ := bk1 xq
   replace xq := Lib.hid xq
   obtain ⟨me, mf, Xp, Uu⟩ := bk2 xr
   replace xr := Lib.hid xr
   obtain ⟨mg, mh, Xq, Uv⟩ := bk2 xt
   replace xt := Lib.hid xt
   obtain ⟨mi, mj, Xr, Uw⟩ := bk2 xu
   replace xu := Lib.hid xu
   clear hR9 hU9 hV9 hgg hgf hcE hB9
   go_wp2_with fail
   replace xp := xp.out
   replace xq := xq.out
   replace xr := xr.out
   replace xt := xt.out
   replace xu := xu.out
   refine chk (fun W => Below w.heap.size w W ∧ W.heap[w.heap.size + 1 + 1 + 1]? = some (.cells #[.int .i64 0, .int .i64 0, .int .i64 0, .int .i64 0] 29 (0, 0)) ∧ W.heap[gf]? = some (.cells #[.bool v0] 59 (0, 0)) ∧ W.heap[gg]? = some (.cells #[.int .i64 a0, .int .i64 b0] 44 (0, 0)) ∧ W.heap[w30.heap.size]? = some (.cells #[.int .i64 pa, .int .i64 pb, .int .i64 qa, .int .i64 qb, .int .i64 pa, .int .i64 pb, .int .i64 qa, .int .i64 qb] 44 (0, 0))) (by refine ⟨?_, ?_, ?_, ?_, ?_⟩ <;> (exact ck)) ?_
   clear ny nz ma mb Xn xp
   clear mc Xo xq
   clear me mf Xp xr
   clear mg mh Xq xt
   clear mi mj Xr xu
   clear hB30
   rintro w31 ⟨hB31, qe, qf, qg, qh⟩
   obtain ⟨jg, jh, ji, jj, uh, Ux⟩ := bk4 qe
   replace qe := Lib.hid qe
   obtain ⟨jk, ui, Uy⟩ := bk1 qf
   replace qf := Lib.hid qf
   obtain ⟨jl, jm, uj, Uz⟩ := bk2 qg
   replace qg := Lib.hid qg
   obtain ⟨jn, jo, jp, jq, jr, jt, ju, jv, uk, Ga⟩ := bk8 qh
   replace qh := Lib.hid qh
   generalize w30.heap.size = gl at *
   go_loopw [77] (fun iv wr => ∃ k : Nat, iv = .int .i64 k ∧ k ≤ 4 ∧
    wr.heap[w.heap.size + 1 + 1 + 1]? = some (.cells #[.int .i64 0, .int .i64 0, .int .i64 0, .int .i64 0] 29 (0, 0)) ∧
    wr.heap[gf]? = some (.cells #[.bool (gmK ⟨v0, a0, b0⟩ pa pb qa qb k).f] 59 (0, 0)) ∧
    wr.heap[gg]? = some (.cells #[.int .i64 (gmK ⟨v0, a0, b0⟩ pa pb qa qb k).a, .int .i64 (gmK ⟨v0, a0, b0⟩ pa pb qa qb k).b] 44 (0, 0)) ∧
    wr.heap[gl]? = some (.cells #[.int .i64 pa, .int .i64 pb, .int .i64 qa, .int .i64 qb, .int .i64 pa, .int .i64 pb, .int .i64 qa, .int .i64 qb] 44 (0, 0)) ∧ Below w.heap.size w wr) (fun iv _ => (4 - intOf iv).toNat)
   case atStart => exact ⟨0, rfl, by omega, qe.out, qf.out, qg.out, qh.out, hB31⟩
   case round =>
    obtain ⟨k, rfl, hk, hR, hF, hG, hL, hbw⟩ := hrel
    have hsw := hbw.size
    by_cases hlt : k < 4
    ·have hltc : (k : Int) < 4 := by omega
     obtain ⟨xa, xb, e0, e1, hst, hxa, hxb⟩ : ∃ xa xb : Int, wr.cell? ⟨gl, k * 2, none⟩ = some (.int .i64 xa) ∧ wr.cell? ⟨gl, k * 2 + 1, none⟩ = some (.int .i64 xb) ∧
       gmK ⟨v0, a0, b0⟩ pa pb qa qb (k + 1) = gmS (gmK ⟨v0, a0, b0⟩ pa pb qa qb k) xa xb ∧ (0 ≤ xa ∧ xa ≤ 14100000) ∧ (0 ≤ xb ∧ xb ≤ 14100000) := by
      obtain ⟨c0, c1, c2, c3, c4, c5, c6, c7, _, _⟩ := bk8 hL
      have h4 : k = 0 ∨ k = 1 ∨ k = 2 ∨ k = 3 := by omega
      rcases h4 with rfl | rfl | rfl | rfl
      ·exact ⟨pa, pb, c0, c1, rfl, cp1, cp2⟩
      ·exact ⟨qa, qb, c2, c3, rfl, cq1, cq2⟩
      ·exact ⟨pa, pb, c4, c5, rfl, cp1, cp2⟩
      ·exact ⟨qa, qb, c6, c7, rfl, cq1, cq2⟩
     have hbd := HGB.out k
     have HST := Lib.hid hst
     obtain ⟨v, hv⟩ : ∃ v, (gmK ⟨v0, a0, b0⟩ pa pb qa qb k).f = v := ⟨_, rfl⟩
     obtain ⟨a, ha⟩ : ∃ v, (gmK ⟨v0, a0, b0⟩ pa pb qa qb k).a = v := ⟨_, rfl⟩
     obtain ⟨b, hb⟩ : ∃ v, (gmK ⟨v0, a0, b0⟩ pa pb qa qb k).b = v := ⟨_, rfl⟩
     rw [hv] at hF
     rw [ha, hb] at hG hbd
     have TM := fun W hp => Lib.hid (spminus_any a b xa xb v W gf hp hbd.1 hbd.2 (by omega) (by omega))
     have HE := Lib.hid (And.intro hv (And.intro ha hb))
     clear hst hv ha hb hbd HGB HPX
     go_upto_region 13 with fail
     replace qe := qe.out
     replace qf := qf.out
     replace qg := qg.out
     replace qh := qh.out
     refine chk (fun W => Below w.heap.size w W ∧ W.heap[w.heap.size + 1 + 1 + 1]? = some (.cells #[.int .i64 0, .int .i64 0, .int .i64 0, .int .i64 0] 29 (0, 0)) ∧ W.heap[gf]? = some (.cells #[.bool v] 59 (0, 0)) ∧ W.heap[gg]? = some (.cells #[.int .i64 a, .int .i64 b] 44 (0, 0)) ∧ W.heap[wr.heap.size]? = some (.cells #[.int .i64 xa, .int .i64 xb] 44 (0, 0)) ∧ W.heap[gl]? = some (.cells #[.int .i64 pa, .int .i64 pb, .int .i64 qa, .int .i64 qb, .int .i64 pa, .int .i64 pb, .int .i64 qa, .int .i64 qb] 44 (0, 0))) (by refine ⟨?_, ?_, ?_, ?_, ?_, ?_⟩ <;> (exact ck)) ?_
     clear jg jh ji jj uh qe
     clear jk ui qf
     clear jl jm uj qg
     clear jn jo jp jq jr jt ju jv uk qh
     clear hB31
     rintro w33 ⟨hB33, jy, jz, ya, ul, yb⟩
     obtain ⟨Ju, Jv, Jw, Jx, Gb, Xs⟩ := bk4 jy
     replace jy := Lib.hid jy
     obtain ⟨Jy, Gc, Gd⟩ := bk1 jz
     replace jz := Lib.hid jz
     obtain ⟨Jz, Ya, Ge, Xt⟩ := bk2 ya
     replace ya := Lib.hid ya
     obtain ⟨Yb, Yc, Gf, Gg⟩ := bk2 ul
     replace ul := Lib.hid ul
     obtain ⟨Yd, Ye, Yf, Yg, Yh, Yi, Yj, Yk, Gh, Xu⟩ := bk8 yb
     replace yb := Lib.hid yb
     clear hR hF hG hL e0 e1
     go_upto_region 14 with (first | (go_at_call 32; (with_reducible refine ((TM _ jz.out).out).mono ?_); rintro r0 w34 ⟨rfl, hk34⟩; have hr34 := (hk34.block _ Xs (by omega)).trans jy.out; have hl34 := (hk34.block _ Xu (by omega)).trans yb.out; have hg34 := (hk34.block _ Xt (by omega)).trans ya.out; have hf34 := hk34.at_; have hB34 := hB33.trans (hk34.below (B := w.heap.size) hB33.size (by omega)); obtain ⟨ks0, ks1, fs, ls⟩ := bk2 hg34))
     go_wp2_with fail
     go_roundw
     case rel =>
      have E0 := HE.out
      have E1 : (gmK ⟨v0, a0, b0⟩ pa pb qa qb (k + 1)).f = (v && validB (a - xb) (b - xa)) := by rw [HST.out]; unfold gmS mnV; rw [E0.1, E0.2.1, E0.2.2]
      have E2 : (gmK ⟨v0, a0, b0⟩ pa pb qa qb (k + 1)).a = kpV (v && validB (a - xb) (b - xa)) (a - xb) := by rw [HST.out]; unfold gmS mnA mnV; rw [E0.1, E0.2.1, E0.2.2]
      have E3 : (gmK ⟨v0, a0, b0⟩ pa pb qa qb (k + 1)).b = kpV (v && validB (a - xb) (b - xa)) (b - xa) := by rw [HST.out]; unfold gmS mnB mnV; rw [E0.1, E0.2.1, E0.2.2]
      exact ⟨k + 1, by go_num, by omega, ck, by rw [E1]; (exact ck), by rw [E2, E3]; (exact ck), ck, ck⟩
     case measure => simp [intOf]; omega
    ·obtain rfl : k = 4 := by omega
     have hvd := @gm_valid ⟨v0, a0, b0⟩ pa pb qa qb 3
     have hpx := HPX.out
     generalize (gmK ⟨v0, a0, b0⟩ pa pb qa qb 4).f = v at *
     generalize (gmK ⟨v0, a0, b0⟩ pa pb qa qb 4).a = a at *
     generalize (gmK ⟨v0, a0, b0⟩ pa pb qa qb 4).b = b at *
     clear HPX HGB
     cases v
     ·rw [if_neg (by simp)] at hpx
      unfold ivZ at hpx
      obtain ⟨rfl, rfl, rfl, rfl, rfl⟩ : r1 = 0 ∧ r2 = 0 ∧ r3 = 0 ∧ r4 = 0 ∧ r5 = false := by simpa using hpx
      have TI := fun W : World => Lib.hid (interval_any a b false W)
      rw [ivV_no (by simp)] at TI
      clear hpx hvd
      go_upto_region 15 with fail
      replace qe := qe.out
      replace qf := qf.out
      replace qg := qg.out
      replace qh := qh.out
      refine chk (fun W => Below w.heap.size w W ∧ W.heap[w.heap.size + 1 + 1 + 1]? = some (.cells #[.int .i64 0, .int .i64 0, .int .i64 0, .int .i64 0] 29 (0, 0)) ∧ W.heap[gf]? = some (.cells #[.bool false] 59 (0, 0)) ∧ W.heap[gg]? = some (.cells #[.int .i64 a, .int .i64 b] 44 (0, 0))) (by refine ⟨?_, ?_, ?_, ?_⟩ <;> (exact ck)) ?_
      clear jg jh ji jj uh qe
      clear jk ui qf
      clear jl jm uj qg
      clear jn jo jp jq jr jt ju jv uk qh
      clear hB31
      rintro w40 ⟨hB40, qd, qr, qy⟩
      obtain ⟨qj, qk, ql, qm, qi, qc⟩ := bk4 qd
      replace qd := Lib.hid qd
      obtain ⟨zu, bx, um⟩ := bk1 qr
      replace qr := Lib.hid qr
      obtain ⟨jw, jx, Xv, zw⟩ := bk2 qy
      replace qy := Lib.hid qy
      clear hR hF hG hL
      refine wp_drawn' (n := 8) (by kernel_rfl) (by kernel_rfl) (by kernel_rfl) ?_
      apply Exists.intro
      refine ⟨?_, ?_⟩
      ·intro W hW
       have kx0 := fun x => (xcell hW gg (by exact zw) x 0).trans jw
       have kx1 := fun x => (xcell hW gg (by exact zw) x 1).trans jx
       have kx2 := fun x => (xcell hW gf (by exact um) x 0).trans zu
       simp only [List.take_succ_cons, List.take_zero]
       repeat (go_big_quiet_step (first | (go_at_call 20; (with_reducible exact draw_of _ ((TI _).out)))))
       exact wpQuiet_nil rfl
      intro w41 hb41
      simp only [List.drop_succ_cons, List.drop_zero, Act.put, List.setIfInBounds_toArray, List.set_cons_succ, List.set_cons_zero]
      have kr0 := (cellAt hb41 (w.heap.size + 1 + 1 + 1) qc 0).trans qj
      have fr0 := (frozAt hb41 (w.heap.size + 1 + 1 + 1) qc 0).trans (qi 0)
      have kr1 := (cellAt hb41 (w.heap.size + 1 + 1 + 1) qc 1).trans qk
      have fr1 := (frozAt hb41 (w.heap.size + 1 + 1 + 1) qc 1).trans (qi 1)
      have kr2 := (cellAt hb41 (w.heap.size + 1 + 1 + 1) qc 2).trans ql
      have fr2 := (frozAt hb41 (w.heap.size + 1 + 1 + 1) qc 2).trans (qi 2)
      have kr3 := (cellAt hb41 (w.heap.size + 1 + 1 + 1) qc 3).trans qm
      have fr3 := (frozAt hb41 (w.heap.size + 1 + 1 + 1) qc 3).trans (qi 3)
      have lR := Nat.lt_of_lt_of_le qc hb41.size
      have hB41 := hB40.trans (hb41.mono hB40.size)
      clear hb41
      iterate 40 (first | (with_reducible show bodyPost _ _ _ _ _ _) | (with_reducible refine wp_ret ?_) | go_values | go_skip | go_guarded | go_step | go_upon | go_back | skip)
      refine bodyPost_ret (v := .tuple #[.agg #[.int .i64 0, .int .i64 0, .int .i64 0, .int .i64 0], .bool false]) (by simp [results, Tryz.results15, go_sem, kr0, kr1, kr2, kr3, fr0, fr1, fr2, fr3, lR]) rfl ⟨rfl, ?_⟩
      exact bel
     ·rw [if_pos rfl] at hpx
      unfold mk5 at hpx
      obtain ⟨n1', n2', n3', n4', rfl⟩ : r1 = mkN a 4096 ∧ r2 = mkD a 4096 ∧ r3 = mkN b 4096 ∧ r4 = mkD b 4096 ∧ r5 = true := by simpa using hpx
      have TI := fun W : World => Lib.hid (interval_any a b true W)
      rw [ivV_yes (hvd rfl), ← n1', ← n2', ← n3', ← n4'] at TI
      clear hpx hvd n1' n2' n3' n4'
      go_upto_region 15 with fail
      replace qe := qe.out
      replace qf := qf.out
      replace qg := qg.out
      replace qh := qh.out
      refine chk (fun W => Below w.heap.size w W ∧ W.heap[w.heap.size + 1 + 1 + 1]? = some (.cells #[.int .i64 0, .int .i64 0, .int .i64 0, .int .i64 0] 29 (0, 0)) ∧ W.heap[gf]? = some (.cells #[.bool true] 59 (0, 0)) ∧ W.heap[gg]? = some (.cells #[.int .i64 a, .int .i64 b] 44 (0, 0))) (by refine ⟨?_, ?_, ?_, ?_⟩ <;> (exact ck)) ?_
      clear jg jh ji jj uh qe
      clear jk ui qf
      clear jl jm uj qg
      clear jn jo jp jq jr jt ju jv uk qh
      clear hB31
      rintro w40 ⟨hB40, qd, qr, qy⟩
      obtain ⟨qj, qk, ql, qm, qi, qc⟩ := bk4 qd
      replace qd := Lib.hid qd
      obtain ⟨zu, bx, um⟩ := bk1 qr
      replace qr := Lib.hid qr
      obtain ⟨jw, jx, Xv, zw⟩ := bk2 qy
      replace qy := Lib.hid qy
      clear hR hF hG hL
      refine wp_drawn' (n := 8) (by kernel_rfl) (by kernel_rfl) (by kernel_rfl) ?_
      apply Exists.intro
      refine ⟨?_, ?_⟩
      ·intro W hW
       have kx0 := fun x => (xcell hW gg (by exact zw) x 0).trans jw
       have kx1 := fun x => (xcell hW gg (by exact zw) x 1).trans jx
       have kx2 := fun x => (xcell hW gf (by exact um) x 0).trans zu
       simp only [List.take_succ_cons, List.take_zero]
       repeat (go_big_quiet_step (first | (go_at_call 20; (with_reducible exact draw_of _ ((TI _).out)))))
       exact wpQuiet_nil rfl
      intro w41 hb41
      simp only [List.drop_succ_cons, List.drop_zero, Act.put, List.setIfInBounds_toArray, List.set_cons_succ, List.set_cons_zero]
      have kr0 := (cellAt hb41 (w.heap.size + 1 + 1 + 1) qc 0).trans qj
      have fr0 := (frozAt hb41 (w.heap.size + 1 + 1 + 1) qc 0).trans (qi 0)
      have kr1 := (cellAt hb41 (w.heap.size + 1 + 1 + 1) qc 1).trans qk
      have fr1 := (frozAt hb41 (w.heap.size + 1 + 1 + 1) qc 1).trans (qi 1)
      have kr2 := (cellAt hb41 (w.heap.size + 1 + 1 + 1) qc 2).trans ql
      have fr2 := (frozAt hb41 (w.heap.size + 1 + 1 + 1) qc 2).trans (qi 2)
      have kr3 := (cellAt hb41 (w.heap.size + 1 + 1 + 1) qc 3).trans qm
      have fr3 := (frozAt hb41 (w.heap.size + 1 + 1 + 1) qc 3).trans (qi 3)
      have lR := Nat.lt_of_lt_of_le qc hb41.size
      have hB41 := hB40.trans (hb41.mono hB40.size)
      clear hb41
      iterate 40 (first | (with_reducible show bodyPost _ _ _ _ _ _) | (with_reducible refine wp_ret ?_) | go_values | go_skip | go_guarded | go_step | go_upon | go_back | skip)
      refine bodyPost_ret (v := .tuple #[.agg #[.int .i64 r1, .int .i64 r2, .int .i64 r3, .int .i64 r4], .bool true]) (by simp [results, Tryz.results15, go_sem, kr0, kr1, kr2, kr3, fr0, fr1, fr2, fr3, lR]) rfl ⟨rfl, ?_⟩
      exact bel
end
section
open Go.RowKit
set_option linter.unusedVariables false
set_option maxHeartbeats 4000000
set_option maxRecDepth 20000
set_option linter.unusedSimpArgs false
attribute [local go_sem] openAt openUpon
theorem ParallelogramGap_any (A B x1 y1 e1 x2 y2 e2 : Int) (w : World) : Calls Tryz.prog 15 #[.agg #[.int .i64 A, .int .i64 B], .agg #[.int .i64 x1, .int .i64 y1, .int .i64 e1], .agg #[.int .i64 x2, .int .i64 y2, .int .i64 e2]] w fun r w' =>
      r = .returned (.tuple #[.agg #[.int .i64 (gpF A B x1 y1 e1 x2 y2 e2).1, .int .i64 (gpF A B x1 y1 e1 x2 y2 e2).2.1, .int .i64 (gpF A B x1 y1 e1 x2 y2 e2).2.2.1, .int .i64 (gpF A B x1 y1 e1 x2 y2 e2).2.2.2.1], .bool (gpF A B x1 y1 e1 x2 y2 e2).2.2.2.2]) ∧ Below w.heap.size w w' := by
  cases hk : (pqB A B x1 y1 e1 && pqB A B x2 y2 e2)
  · rw [show gpF A B x1 y1 e1 x2 y2 e2 = ivZ by simp [gpF, hk]]
    exact Gap_no A B x1 y1 e1 x2 y2 e2 w hk
  · rw [show gpF A B x1 y1 e1 x2 y2 e2 = gpV A B x1 y1 e1 x2 y2 e2 by simp [gpF, hk]]
    rw [Bool.and_eq_true] at hk
    exact Gap_yes w hk.1 hk.2
theorem sParallelogramGap_any (A B x1 y1 e1 x2 y2 e2 : Int) (w : World) : Calls Tryz.prog 14 #[.agg #[.int .i64 A, .int .i64 B], .agg #[.int .i64 x1, .int .i64 y1, .int .i64 e1], .agg #[.int .i64 x2, .int .i64 y2, .int .i64 e2]] w fun r w' =>
      r = .returned (.tuple #[.agg #[.int .i64 (gpF A B x1 y1 e1 x2 y2 e2).1, .int .i64 (gpF A B x1 y1 e1 x2 y2 e2).2.1, .int .i64 (gpF A B x1 y1 e1 x2 y2 e2).2.2.1, .int .i64 (gpF A B x1 y1 e1 x2 y2 e2).2.2.2.1], .bool (gpF A B x1 y1 e1 x2 y2 e2).2.2.2.2]) ∧ Below w.heap.size w w' := by
  cases hk : (pqB A B x1 y1 e1 && pqB A B x2 y2 e2)
  · rw [show gpF A B x1 y1 e1 x2 y2 e2 = ivZ by simp [gpF, hk]]
    exact sGap_no A B x1 y1 e1 x2 y2 e2 w hk
  · rw [show gpF A B x1 y1 e1 x2 y2 e2 = gpV A B x1 y1 e1 x2 y2 e2 by simp [gpF, hk]]
    rw [Bool.and_eq_true] at hk
    exact sGap_yes w hk.1 hk.2
theorem FnExactParallelogramGap_any (a0_0 : Int) (a0_1 : Int) (a1_0 : Int) (a1_1 : Int) (a1_2 : Int) (a2_0 : Int) (a2_1 : Int) (a2_2 : Int) (w : World) : Calls Tryz.prog 5 #[.agg #[.int .i64 a0_0, .int .i64 a0_1], .agg #[.int .i64 a1_0, .int .i64 a1_1, .int .i64 a1_2], .agg #[.int .i64 a2_0, .int .i64 a2_1, .int .i64 a2_2]] w fun e w' => e = .returned (.bool true) ∧ Below w.heap.size w w' := by
  have CS := fun W : World => Lib.hid (sParallelogramGap_any a0_0 a0_1 a1_0 a1_1 a1_2 a2_0 a2_1 a2_2 W)
  have CI := fun W : World => Lib.hid (ParallelogramGap_any a0_0 a0_1 a1_0 a1_1 a1_2 a2_0 a2_1 a2_2 W)
  generalize gpF a0_0 a0_1 a1_0 a1_1 a1_2 a2_0 a2_1 a2_2 = r at *; obtain ⟨r1, r2, r3, r4, r5⟩ := r
  have tok1 := trivial
  have tok2 := trivial
  have tok3 := trivial
  go_enter Tryz.func5, Tryz.ntmps5
  go_wp2_with fail
  refine wp_drawn_fill (n := 10) 7 19 29 #[.int .i64 0, .int .i64 0, .int .i64 0, .int .i64 0] (by kernel_rfl) (by kernel_rfl) (by kernel_rfl) ⟨_, rfl, rfl, rfl, fun _ _ => by simp [go_sem]⟩ ⟨_, rfl, rfl, rfl, rfl⟩ (by kernel_rfl) (by kernel_rfl) (by kernel_rfl) ?_
  apply Exists.intro
  refine ⟨?_, ?_⟩
  · intro W hW
    try (have qc := fun x => xcell hW (w.heap.size) (by go_size) x 0; simp [go_sem, *] at qc)
    try (have qd := fun x => xcell hW (w.heap.size) (by go_size) x 1; simp [go_sem, *] at qd)
    try (have qe := fun x => xcell hW (w.heap.size + 1) (by go_size) x 0; simp [go_sem, *] at qe)
    try (have qf := fun x => xcell hW (w.heap.size + 1) (by go_size) x 1; simp [go_sem, *] at qf)
    try (have qg := fun x => xcell hW (w.heap.size + 1) (by go_size) x 2; simp [go_sem, *] at qg)
    try (have qh := fun x => xcell hW (w.heap.size + 1 + 1) (by go_size) x 0; simp [go_sem, *] at qh)
    try (have qi := fun x => xcell hW (w.heap.size + 1 + 1) (by go_size) x 1; simp [go_sem, *] at qi)
    try (have qj := fun x => xcell hW (w.heap.size + 1 + 1) (by go_size) x 2; simp [go_sem, *] at qj)
    simp only [List.take_succ_cons, List.take_zero]
    repeat (go_big_quiet_step ((first | (go_at_call 7; exact draw_of _ (toCurve_any _ _ _)) | (go_at_call 8; exact draw_of _ (toPoint_any _ _ _ _)) | (go_at_call 14; exact draw_of _ ((CS _).out)))))
    exact wpQuiet_nil rfl
  refine ⟨_, rfl, rfl, by simp [Value.oneCell'], ?_⟩
  intro g1 w1 hb1 hg1 hk1
  try simp only [sA, sB, sC, sD] at hg1
  try have jb : w.heap.size < g1 := by omega
  try have jc : w.heap.size + 1 < g1 := by omega
  try have jd : w.heap.size + 1 + 1 < g1 := by omega
  simp only [List.drop_succ_cons, List.drop_zero, Act.put, List.setIfInBounds_toArray, List.set_cons_succ, List.set_cons_zero]
  have hz1 := hb1.size
  (try simp only [sA, sB, sC, sD] at hz1)
  (try (obtain ⟨kq, qu⟩ := cfAt hb1 (w.heap.size); have qk := kq 0; have ql := kq 1; clear kq; simp [go_sem, *] at qk ql qu))
  (try have xl : w.heap.size < w1.heap.size := by omega)
  (try (obtain ⟨kq, qv⟩ := cfAt hb1 (w.heap.size + 1); have qm := kq 0; have qn := kq 1; have qo := kq 2; clear kq; simp [go_sem, *] at qm qn qo qv))
  (try have xm : w.heap.size + 1 < w1.heap.size := by omega)
  (try (obtain ⟨kq, qw⟩ := cfAt hb1 (w.heap.size + 1 + 1); have qq := kq 0; have qr := kq 1; have qt := kq 2; clear kq; simp [go_sem, *] at qq qr qt qw))
  (try have xn : w.heap.size + 1 + 1 < w1.heap.size := by omega)
  have kg1 := blk_cell hk1
  have fg1 := blk_frozen hk1
  have lg1 := blk_lt hk1
  go_wp2_with fail
  refine wp_drawn_fill (n := 10) 9 29 29 #[.int .i64 0, .int .i64 0, .int .i64 0, .int .i64 0] (by kernel_rfl) (by kernel_rfl) (by kernel_rfl) ⟨_, rfl, rfl, rfl, fun _ _ => by simp [go_sem]⟩ ⟨_, rfl, rfl, rfl, rfl⟩ (by kernel_rfl) (by kernel_rfl) (by kernel_rfl) ?_
  apply Exists.intro
  refine ⟨?_, ?_⟩
  · intro W hW
    try (have qc := fun x => xcell hW (w.heap.size) (by go_size) x 0; simp [go_sem, *] at qc)
    try (have qd := fun x => xcell hW (w.heap.size) (by go_size) x 1; simp [go_sem, *] at qd)
    try (have qe := fun x => xcell hW (w.heap.size + 1) (by go_size) x 0; simp [go_sem, *] at qe)
    try (have qf := fun x => xcell hW (w.heap.size + 1) (by go_size) x 1; simp [go_sem, *] at qf)
    try (have qg := fun x => xcell hW (w.heap.size + 1) (by go_size) x 2; simp [go_sem, *] at qg)
    try (have qh := fun x => xcell hW (w.heap.size + 1 + 1) (by go_size) x 0; simp [go_sem, *] at qh)
    try (have qi := fun x => xcell hW (w.heap.size + 1 + 1) (by go_size) x 1; simp [go_sem, *] at qi)
    try (have qj := fun x => xcell hW (w.heap.size + 1 + 1) (by go_size) x 2; simp [go_sem, *] at qj)
    try (have zd := fun x => xcell hW (g1) (by go_size) x 0; simp [go_sem, *] at zd)
    try (have ze := fun x => xcell hW (g1) (by go_size) x 1; simp [go_sem, *] at ze)
    try (have zf := fun x => xcell hW (g1) (by go_size) x 2; simp [go_sem, *] at zf)
    try (have zg := fun x => xcell hW (g1) (by go_size) x 3; simp [go_sem, *] at zg)
    simp only [List.take_succ_cons, List.take_zero]
    repeat (go_big_quiet_step ((first | (go_at_call 7; exact draw_of _ (toCurve_any _ _ _)) | (go_at_call 8; exact draw_of _ (toPoint_any _ _ _ _)) | (go_at_call 15; exact draw_of _ ((CI _).out)))))
    exact wpQuiet_nil rfl
  refine ⟨_, rfl, rfl, by simp [Value.oneCell'], ?_⟩
  intro g2 w2 hb2 hg2 hk2
  try simp only [sA, sB, sC, sD] at hg2
  try have je : w.heap.size < g2 := by omega
  try have jf : w.heap.size + 1 < g2 := by omega
  try have jg : w.heap.size + 1 + 1 < g2 := by omega
  try have jh : g1 < g2 := by omega
  simp only [List.drop_succ_cons, List.drop_zero, Act.put, List.setIfInBounds_toArray, List.set_cons_succ, List.set_cons_zero]
  have hz2 := hb2.size
  (try simp only [sA, sB, sC, sD] at hz2)
  (try (obtain ⟨kq, xo⟩ := cfAt hb2 (w.heap.size); have qx := kq 0; have qy := kq 1; clear kq; simp [go_sem, *] at qx qy xo))
  (try have zq : w.heap.size < w2.heap.size := by omega)
  (try (obtain ⟨kq, xp⟩ := cfAt hb2 (w.heap.size + 1); have qz := kq 0; have xc := kq 1; have xd := kq 2; clear kq; simp [go_sem, *] at qz xc xd xp))
  (try have zr : w.heap.size + 1 < w2.heap.size := by omega)
  (try (obtain ⟨kq, xq⟩ := cfAt hb2 (w.heap.size + 1 + 1); have xe := kq 0; have xf := kq 1; have xg := kq 2; clear kq; simp [go_sem, *] at xe xf xg xq))
  (try have zt : w.heap.size + 1 + 1 < w2.heap.size := by omega)
  (try (obtain ⟨kq, zc⟩ := cfAt hb2 (g1); have xh := kq 0; have xi := kq 1; have xj := kq 2; have xk := kq 3; clear kq; simp [go_sem, *] at xh xi xj xk zc))
  (try have zx : g1 < w2.heap.size := by omega)
  (try clear qk ql qu)
  (try clear xl)
  (try clear qm qn qo qv)
  (try clear xm)
  (try clear qq qr qt qw)
  (try clear xn)
  have kg2 := blk_cell hk2
  have fg2 := blk_frozen hk2
  have lg2 := blk_lt hk2
  go_wp2_with (first | (have _t := tok3; go_at_call 10; refine (eqInterval_same _ _ _ _ _).mono ?_; rintro e w3 ⟨rfl, hb3⟩; clear tok3 _t; have hz3 := hb3.size; (try simp only [sA, sB, sC, sD] at hz3); (try (obtain ⟨kq, zu⟩ := cfAt hb3 (w.heap.size); have xr := kq 0; have xt := kq 1; clear kq; simp [go_sem, *] at xr xt zu)); (try have ji : w.heap.size < w3.heap.size := by omega); (try (obtain ⟨kq, zv⟩ := cfAt hb3 (w.heap.size + 1); have xu := kq 0; have xv := kq 1; have xw := kq 2; clear kq; simp [go_sem, *] at xu xv xw zv)); (try have jj : w.heap.size + 1 < w3.heap.size := by omega); (try (obtain ⟨kq, zw⟩ := cfAt hb3 (w.heap.size + 1 + 1); have xy := kq 0; have za := kq 1; have zb := kq 2; clear kq; simp [go_sem, *] at xy za zb zw)); (try have jk : w.heap.size + 1 + 1 < w3.heap.size := by omega); (try (obtain ⟨kq, zy⟩ := cfAt hb3 (g1); have zh := kq 0; have zi := kq 1; have zj := kq 2; have zk := kq 3; clear kq; simp [go_sem, *] at zh zi zj zk zy)); (try have jl : g1 < w3.heap.size := by omega); (try (obtain ⟨kq, ja⟩ := cfAt hb3 (g2); have zm := kq 0; have zn := kq 1; have zo := kq 2; have zp := kq 3; clear kq; simp [go_sem, *] at zm zn zo zp ja)); (try have jm : g2 < w3.heap.size := by omega); (try clear qk ql qu); (try clear xl); (try clear qm qn qo qv); (try clear xm); (try clear qq qr qt qw); (try clear xn); (try clear qx qy xo); (try clear zq); (try clear qz xc xd xp); (try clear zr); (try clear xe xf xg xq); (try clear zt); (try clear xh xi xj xk zc); (try clear zx)))
  go_ret
  refine ⟨rfl, ?_⟩
  exact bel
end
end Go.Proofs.YtnkmgpmehkholaaGreat
