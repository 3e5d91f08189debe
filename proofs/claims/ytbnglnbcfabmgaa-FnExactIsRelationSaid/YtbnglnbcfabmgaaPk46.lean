/- Lemmas and contracts of functions. No condition. -/
import Derived.Test.YtbnglnbcfabmgaaPk44
namespace Go.Proofs.Ytbnglnbcfabmgaa
open Go.RowKit
set_option linter.unusedVariables false
set_option maxHeartbeats 16000000
set_option maxRecDepth 20000
set_option linter.unusedSimpArgs false
attribute [local go_sem] openAt openUpon
theorem MultiplePoint_any (A B x y e n : Int) (w : World) (hcv : cvB A B = true) (hA : -1000 ≤ A ∧ A ≤ 1000) (hB : -10000 ≤ B ∧ B ≤ 10000) (hp : ptB A B x y e = true) (hn : -12 ≤ n ∧ n ≤ 12) :
  Calls Try.prog 43 #[.agg #[.int .i64 A, .int .i64 B], .agg #[.int .i64 x, .int .i64 y, .int .i64 e], .int .i64 n] w fun r w' =>
   r = .returned (.tuple #[.agg #[.int .i64 (ptN A x y e n).1, .int .i64 (ptN A x y e n).2.1, .int .i64 (ptN A x y e n).2.2.1], .bool (ptN A x y e n).2.2.2]) ∧ Below w.heap.size w w' := by
 obtain ⟨r1, r2, r3, r4, hr⟩ := pt4 (ptN A x y e n)
 rw [hr]
 have hyb : -3000000 ≤ y ∧ y ≤ 3000000 := by
  rcases pt_cases hA hB hp with ⟨_, rfl, _⟩ | ⟨_, _, h, _⟩
  ·omega
  ·exact h
 have T1 := fun W : World => Lib.hid (isPoint_any A B x y e W)
 rw [show (cvB A B && ptB A B x y e) = true by rw [hcv, hp]; rfl] at T1
 have T2 := fun W : World => Lib.hid (inside_any n (-12) 12 W)
 rw [show inB n (-12) 12 = true from inB_iff.2 hn] at T2
 clear hcv
 by_cases h0 : n < 0
 ·have HR := Lib.hid (show ptM A x (-y) e n.natAbs = (r1, r2, r3, r4) by rw [← hr, ptN]; first | rw [if_pos h0] | rw [if_neg h0])
  have hpm : ptB A B x (-y) e = true := by first | exact hp | exact ptB_neg hp
  obtain ⟨N, hN⟩ : ∃ N : Nat, n.natAbs = N := ⟨_, rfl⟩
  have hNb : N ≤ 12 := by omega
  rw [hN] at HR
  obtain rfl : n = -(N : Int) := by omega
  have TM := fun W : World => multiples_any A B x (-y) e N W hA hB hpm hNb
  have hok := ptM_ok hA hB hpm N
  unfold NewM at TM
  rw [HR.out] at TM hok
  have HOK := Lib.hid hok
  clear hr hp hok
  have tok1 := trivial
  have tok2 := trivial
  have tok3 := trivial
  have tok4 := trivial
  have tok5 := trivial
  go_enter Try.func43, Try.ntmps43
  go_upto_region 1 with fail
  refine chk (fun W => Below w.heap.size w W ∧ W.heap[w.heap.size]? = some (.cells #[.int .i64 A, .int .i64 B] 29 (0, 0)) ∧ W.heap[w.heap.size + 1]? = some (.cells #[.int .i64 x, .int .i64 y, .int .i64 e] 45 (0, 0)) ∧ W.heap[w.heap.size + 1 + 1]? = some (.cells #[.int .i64 0, .int .i64 0, .int .i64 0] 45 (0, 0))) (by refine ⟨?_, ?_, ?_, ?_⟩ <;> (exact ck)) ?_
  rintro w40 ⟨hB40, qa, qb, qc⟩
  obtain ⟨xb, xc, zi, jr⟩ := bk2 qa
  replace qa := Lib.hid qa
  obtain ⟨xd, xe, xf, zj, jt⟩ := bk3 qb
  replace qb := Lib.hid qb
  obtain ⟨xg, xh, xi, zk, ju⟩ := bk3 qc
  replace qc := Lib.hid qc
  go_upto_region 3 with (first | (have _t := tok1; go_at_call 40; (with_reducible refine ((T1 _).out).mono ?_); rintro e w1 ⟨rfl, hb1⟩; clear tok1 _t; have hz1 := hb1.size; (try simp only [sA, sB, sC, sD] at hz1); (try (obtain ⟨kq, xj⟩ := cfAt hb1 (w.heap.size); have qn := kq 0; have qo := kq 1; clear kq; simp [go_sem, *] at qn qo xj)); (try have zt : w.heap.size < w1.heap.size := by omega); (try (obtain ⟨kq, xm⟩ := cfAt hb1 (w.heap.size + 1); have qp := kq 0; have qq := kq 1; have qr := kq 2; clear kq; simp [go_sem, *] at qp qq qr xm)); (try have zu : w.heap.size + 1 < w1.heap.size := by omega); (try (obtain ⟨kq, xn⟩ := cfAt hb1 (w.heap.size + 1 + 1); have qt := kq 0; have qu := kq 1; have qv := kq 2; clear kq; simp [go_sem, *] at qt qu qv xn)); (try have zv : w.heap.size + 1 + 1 < w1.heap.size := by omega)) | (go_at_call 31; (with_reducible refine ((T2 _).out).mono ?_); rintro e w' ⟨rfl, rfl⟩))
  have qd := (hb1.block (w.heap.size) (blk_lt' qa.out)).trans qa.out
  clear xb xc zi qa
  obtain ⟨xo, xp, zm, jy⟩ := bk2 qd
  replace qd := Lib.hid qd
  have qe := (hb1.block (w.heap.size + 1) (blk_lt' qb.out)).trans qb.out
  clear xd xe xf zj qb
  obtain ⟨xr, xt, xu, zn, jz⟩ := bk3 qe
  replace qe := Lib.hid qe
  have qf := (hb1.block (w.heap.size + 1 + 1) (blk_lt' qc.out)).trans qc.out
  clear xg xh xi zk qc
  obtain ⟨xw, xx, xy, zo, ya⟩ := bk3 qf
  replace qf := Lib.hid qf
  have hB1 : Below w.heap.size w w1 := below_via hb1 (by assumption) (by go_size)
  clear T1 T2
  go_upto_region 4 with fail
  go_upto_region 5 with (first | (have _t := tok3; go_at_call 59; refine (opposite_any x y e _ (by omega)).mono ?_; rintro e w3 ⟨rfl, hb3⟩; clear tok3 _t; have hz3 := hb3.size; (try simp only [sA, sB, sC, sD] at hz3); (try (obtain ⟨kq, jv⟩ := cfAt hb3 (w.heap.size); have zw := kq 0; have zx := kq 1; clear kq; simp [go_sem, *] at zw zx jv)); (try have yz : w.heap.size < w3.heap.size := by omega); (try (obtain ⟨kq, jw⟩ := cfAt hb3 (w.heap.size + 1); have zy := kq 0; have zz := kq 1; have ja := kq 2; clear kq; simp [go_sem, *] at zy zz ja jw)); (try have va : w.heap.size + 1 < w3.heap.size := by omega); (try (obtain ⟨kq, jx⟩ := cfAt hb3 (w.heap.size + 1 + 1); have jb := kq 0; have jc := kq 1; have jd := kq 2; clear kq; simp [go_sem, *] at jb jc jd jx)); (try have vb : w.heap.size + 1 + 1 < w3.heap.size := by omega); (try clear qn qo xj); (try clear zt); (try clear qp qq qr xm); (try clear zu); (try clear qt qu qv xn); (try clear zv); (try clear yo yp vc); (try clear vd); (try clear yr yt yu vf); (try clear vg); (try clear yv yw yx vh); (try clear vi)))
  have qy := (hb3.block (w.heap.size) (blk_lt' qd.out)).trans qd.out
  clear xo xp zm qd
  obtain ⟨je, jf, yb, vj⟩ := bk2 qy
  replace qy := Lib.hid qy
  have qz := (hb3.block (w.heap.size + 1) (blk_lt' qe.out)).trans qe.out
  clear xr xt xu zn qe
  obtain ⟨jg, jh, ji, yc, vk⟩ := bk3 qz
  replace qz := Lib.hid qz
  have xa := (hb3.block (w.heap.size + 1 + 1) (blk_lt' qf.out)).trans qf.out
  clear xw xx xy zo qf
  obtain ⟨jj, jk, jl, yd, vl⟩ := bk3 xa
  replace xa := Lib.hid xa
  have hB3 : Below w.heap.size w w3 := below_via hb3 (by assumption) (by go_size)
  replace qy := qy.out
  replace qz := qz.out
  replace xa := xa.out
  refine chk (fun W => Below w.heap.size w W ∧ W.heap[w.heap.size]? = some (.cells #[.int .i64 A, .int .i64 B] 29 (0, 0)) ∧ W.heap[w.heap.size + 1]? = some (.cells #[.int .i64 x, .int .i64 (-y), .int .i64 e] 45 (0, 0)) ∧ W.heap[w.heap.size + 1 + 1]? = some (.cells #[.int .i64 0, .int .i64 0, .int .i64 0] 45 (0, 0))) (by refine ⟨?_, ?_, ?_, ?_⟩ <;> (exact ck)) ?_
  clear je jf yb qy
  clear jg jh ji yc qz
  clear jj jk jl yd xa
  clear hB3
  rintro w4 ⟨hB4, qg, qh, qi⟩
  obtain ⟨xz, za, zp, ye⟩ := bk2 qg
  replace qg := Lib.hid qg
  obtain ⟨zb, zc, zd, zq, yf⟩ := bk3 qh
  replace qh := Lib.hid qh
  obtain ⟨ze, zg, zh, zr, yg⟩ := bk3 qi
  replace qi := Lib.hid qi
  clear h0 hN hn
  go_upto_region 6 with (first | (have _t := tok5; go_at_call 60; (with_reducible refine ((TM _)).mono ?_); rintro e w5 ⟨v, B5, rfl, hv5, hw5, hb5⟩; clear tok5 _t; have hz5 := hb5.size; (try simp only [sA, sB, sC, sD] at hz5)))
  have qw := (hb5.block (w.heap.size) (blk_lt' qg.out)).trans qg.out
  clear xz za zp qg
  obtain ⟨jm, jn, yh, yi⟩ := bk2 qw
  replace qw := Lib.hid qw
  have qx := (hb5.block (w.heap.size + 1) (blk_lt' qh.out)).trans qh.out
  clear zb zc zd zq qh
  obtain ⟨jo, jp, jq, yj, yl⟩ := bk3 qx
  replace qx := Lib.hid qx
  have qj := (hb5.block (w.heap.size + 1 + 1) (blk_lt' qi.out)).trans qi.out
  clear ze zg zh zr qi
  obtain ⟨qk, ql, qm, ym, yn⟩ := bk3 qj
  replace qj := Lib.hid qj
  have hB5 : Below w.heap.size w w5 := below_via hb5 (by assumption) (by go_size)
  clear TM
  cases r4
  ·have hz : (r1, r2, r3, false) = ((0, 0, 0, false) : P4) := by
    rcases HOK.out with ⟨h, _⟩ | h
    ·cases h
    ·exact h
   obtain ⟨rfl, rfl, rfl⟩ : r1 = 0 ∧ r2 = 0 ∧ r3 = 0 := by simpa using hz
   go_upto_region 7 with fail
   iterate 40 (first | (with_reducible show bodyPost _ _ _ _ _ _) | (with_reducible refine wp_ret ?_) | go_values | go_skip | go_guarded | go_step | go_upon | go_back | skip)
   refine bodyPost_ret (v := .tuple #[.agg #[.int .i64 0, .int .i64 0, .int .i64 0], .bool false]) (by simp [results, Try.results43, go_sem, qk, ql, qm]) rfl ⟨rfl, ?_⟩
   have HO := qj.out
   (exact ck)
  ·by_cases hN0 : N = 0
   ·exfalso; omega
   ·obtain ⟨k, hk⟩ : ∃ k, N = k + 1 := ⟨N - 1, by omega⟩
    obtain ⟨m1, m2, m3⟩ := mlL_at A x (-y) e N k (by omega)
    obtain ⟨g, cap, rfl, c1, c2, c3, d0, d1, d2⟩ := (hv5 rfl).at (i := k) (by omega)
    rw [← hk, HR.out] at m1 m2 m3
    rw [m1] at d0
    rw [m2] at d1
    rw [m3] at d2
    have hk1 : (N : Int) - 1 = k := by omega
    have hk3 : ((N : Int) == 0) = false := by simp; omega
    have hk4 : (k : Int) < N := by omega
    clear hv5 m1 m2 m3
    unfold maxLen at c2
    go_upto_region 8 with fail
    iterate 60 (first | (with_reducible show bodyPost _ _ _ _ _ _) | (with_reducible refine wp_ret ?_) | go_values | go_skip | go_guarded | go_step | go_upon | go_back | skip)
    refine bodyPost_ret (v := .tuple #[.agg #[.int .i64 r1, .int .i64 r2, .int .i64 r3], .bool true]) (by simp [results, Try.results43, go_sem, qk, ql, qm]) rfl ⟨rfl, ?_⟩
    have HO := qj.out
    (exact ck)
 ·have HR := Lib.hid (show ptM A x y e n.natAbs = (r1, r2, r3, r4) by rw [← hr, ptN]; first | rw [if_pos h0] | rw [if_neg h0])
  have hpm : ptB A B x y e = true := by first | exact hp | exact ptB_neg hp
  obtain ⟨N, hN⟩ : ∃ N : Nat, n.natAbs = N := ⟨_, rfl⟩
  have hNb : N ≤ 12 := by omega
  rw [hN] at HR
  obtain rfl : n = (N : Int) := by omega
  have TM := fun W : World => multiples_any A B x y e N W hA hB hpm hNb
  have hok := ptM_ok hA hB hpm N
  unfold NewM at TM
  rw [HR.out] at TM hok
  have HOK := Lib.hid hok
  clear hr hp hok
  have tok1 := trivial
  have tok2 := trivial
  have tok3 := trivial
  have tok4 := trivial
  have tok5 := trivial
  go_enter Try.func43, Try.ntmps43
  go_upto_region 1 with fail
  refine chk (fun W => Below w.heap.size w W ∧ W.heap[w.heap.size]? = some (.cells #[.int .i64 A, .int .i64 B] 29 (0, 0)) ∧ W.heap[w.heap.size + 1]? = some (.cells #[.int .i64 x, .int .i64 y, .int .i64 e] 45 (0, 0)) ∧ W.heap[w.heap.size + 1 + 1]? = some (.cells #[.int .i64 0, .int .i64 0, .int .i64 0] 45 (0, 0))) (by refine ⟨?_, ?_, ?_, ?_⟩ <;> (exact ck)) ?_
  rintro w40 ⟨hB40, qa, qb, qc⟩
  obtain ⟨xb, xc, zi, jr⟩ := bk2 qa
  replace qa := Lib.hid qa
  obtain ⟨xd, xe, xf, zj, jt⟩ := bk3 qb
  replace qb := Lib.hid qb
  obtain ⟨xg, xh, xi, zk, ju⟩ := bk3 qc
  replace qc := Lib.hid qc
  go_upto_region 3 with (first | (have _t := tok1; go_at_call 40; (with_reducible refine ((T1 _).out).mono ?_); rintro e w1 ⟨rfl, hb1⟩; clear tok1 _t; have hz1 := hb1.size; (try simp only [sA, sB, sC, sD] at hz1); (try (obtain ⟨kq, xj⟩ := cfAt hb1 (w.heap.size); have qn := kq 0; have qo := kq 1; clear kq; simp [go_sem, *] at qn qo xj)); (try have zt : w.heap.size < w1.heap.size := by omega); (try (obtain ⟨kq, xm⟩ := cfAt hb1 (w.heap.size + 1); have qp := kq 0; have qq := kq 1; have qr := kq 2; clear kq; simp [go_sem, *] at qp qq qr xm)); (try have zu : w.heap.size + 1 < w1.heap.size := by omega); (try (obtain ⟨kq, xn⟩ := cfAt hb1 (w.heap.size + 1 + 1); have qt := kq 0; have qu := kq 1; have qv := kq 2; clear kq; simp [go_sem, *] at qt qu qv xn)); (try have zv : w.heap.size + 1 + 1 < w1.heap.size := by omega)) | (go_at_call 31; (with_reducible refine ((T2 _).out).mono ?_); rintro e w' ⟨rfl, rfl⟩))
  have qd := (hb1.block (w.heap.size) (blk_lt' qa.out)).trans qa.out
  clear xb xc zi qa
  obtain ⟨xo, xp, zm, jy⟩ := bk2 qd
  replace qd := Lib.hid qd
  have qe := (hb1.block (w.heap.size + 1) (blk_lt' qb.out)).trans qb.out
  clear xd xe xf zj qb
  obtain ⟨xr, xt, xu, zn, jz⟩ := bk3 qe
  replace qe := Lib.hid qe
  have qf := (hb1.block (w.heap.size + 1 + 1) (blk_lt' qc.out)).trans qc.out
  clear xg xh xi zk qc
  obtain ⟨xw, xx, xy, zo, ya⟩ := bk3 qf
  replace qf := Lib.hid qf
  have hB1 : Below w.heap.size w w1 := below_via hb1 (by assumption) (by go_size)
  clear T1 T2
  go_upto_region 5 with fail
  replace qd := qd.out
  replace qe := qe.out
  replace qf := qf.out
  refine chk (fun W => Below w.heap.size w W ∧ W.heap[w.heap.size]? = some (.cells #[.int .i64 A, .int .i64 B] 29 (0, 0)) ∧ W.heap[w.heap.size + 1]? = some (.cells #[.int .i64 x, .int .i64 y, .int .i64 e] 45 (0, 0)) ∧ W.heap[w.heap.size + 1 + 1]? = some (.cells #[.int .i64 0, .int .i64 0, .int .i64 0] 45 (0, 0))) (by refine ⟨?_, ?_, ?_, ?_⟩ <;> (exact ck)) ?_
  clear xo xp zm qd
  clear xr xt xu zn qe
  clear xw xx xy zo qf
  clear hB1
  rintro w4 ⟨hB4, qg, qh, qi⟩
  obtain ⟨xz, za, zp, ye⟩ := bk2 qg
  replace qg := Lib.hid qg
  obtain ⟨zb, zc, zd, zq, yf⟩ := bk3 qh
  replace qh := Lib.hid qh
  obtain ⟨ze, zg, zh, zr, yg⟩ := bk3 qi
  replace qi := Lib.hid qi
  clear h0 hN hn
  go_upto_region 6 with (first | (have _t := tok5; go_at_call 60; (with_reducible refine ((TM _)).mono ?_); rintro e w5 ⟨v, B5, rfl, hv5, hw5, hb5⟩; clear tok5 _t; have hz5 := hb5.size; (try simp only [sA, sB, sC, sD] at hz5)))
  have qw := (hb5.block (w.heap.size) (blk_lt' qg.out)).trans qg.out
  clear xz za zp qg
  obtain ⟨jm, jn, yh, yi⟩ := bk2 qw
  replace qw := Lib.hid qw
  have qx := (hb5.block (w.heap.size + 1) (blk_lt' qh.out)).trans qh.out
  clear zb zc zd zq qh
  obtain ⟨jo, jp, jq, yj, yl⟩ := bk3 qx
  replace qx := Lib.hid qx
  have qj := (hb5.block (w.heap.size + 1 + 1) (blk_lt' qi.out)).trans qi.out
  clear ze zg zh zr qi
  obtain ⟨qk, ql, qm, ym, yn⟩ := bk3 qj
  replace qj := Lib.hid qj
  have hB5 : Below w.heap.size w w5 := below_via hb5 (by assumption) (by go_size)
  clear TM
  cases r4
  ·have hz : (r1, r2, r3, false) = ((0, 0, 0, false) : P4) := by
    rcases HOK.out with ⟨h, _⟩ | h
    ·cases h
    ·exact h
   obtain ⟨rfl, rfl, rfl⟩ : r1 = 0 ∧ r2 = 0 ∧ r3 = 0 := by simpa using hz
   go_upto_region 7 with fail
   iterate 40 (first | (with_reducible show bodyPost _ _ _ _ _ _) | (with_reducible refine wp_ret ?_) | go_values | go_skip | go_guarded | go_step | go_upon | go_back | skip)
   refine bodyPost_ret (v := .tuple #[.agg #[.int .i64 0, .int .i64 0, .int .i64 0], .bool false]) (by simp [results, Try.results43, go_sem, qk, ql, qm]) rfl ⟨rfl, ?_⟩
   have HO := qj.out
   (exact ck)
  ·by_cases hN0 : N = 0
   ·subst hN0
    obtain ⟨rfl, rfl, rfl⟩ : 0 = r1 ∧ 0 = r2 ∧ 0 = r3 := by have := HR.out; simpa [ptM] using this
    go_upto_region 7 with fail
    iterate 40 (first | (with_reducible show bodyPost _ _ _ _ _ _) | (with_reducible refine wp_ret ?_) | go_values | go_skip | go_guarded | go_step | go_upon | go_back | skip)
    refine bodyPost_ret (v := .tuple #[.agg #[.int .i64 0, .int .i64 0, .int .i64 0], .bool true]) (by simp [results, Try.results43, go_sem, qk, ql, qm]) rfl ⟨rfl, ?_⟩
    have HO := qj.out
    (exact ck)
   ·obtain ⟨k, hk⟩ : ∃ k, N = k + 1 := ⟨N - 1, by omega⟩
    obtain ⟨m1, m2, m3⟩ := mlL_at A x y e N k (by omega)
    obtain ⟨g, cap, rfl, c1, c2, c3, d0, d1, d2⟩ := (hv5 rfl).at (i := k) (by omega)
    rw [← hk, HR.out] at m1 m2 m3
    rw [m1] at d0
    rw [m2] at d1
    rw [m3] at d2
    have hk1 : (N : Int) - 1 = k := by omega
    have hk3 : ((N : Int) == 0) = false := by simp; omega
    have hk4 : (k : Int) < N := by omega
    clear hv5 m1 m2 m3
    unfold maxLen at c2
    go_upto_region 8 with fail
    iterate 60 (first | (with_reducible show bodyPost _ _ _ _ _ _) | (with_reducible refine wp_ret ?_) | go_values | go_skip | go_guarded | go_step | go_upon | go_back | skip)
    refine bodyPost_ret (v := .tuple #[.agg #[.int .i64 r1, .int .i64 r2, .int .i64 r3], .bool true]) (by simp [results, Try.results43, go_sem, qk, ql, qm]) rfl ⟨rfl, ?_⟩
    have HO := qj.out
    (exact ck)
end Go.Proofs.Ytbnglnbcfabmgaa
