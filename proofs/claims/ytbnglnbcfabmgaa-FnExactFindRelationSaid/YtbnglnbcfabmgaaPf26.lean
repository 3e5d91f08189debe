/- Lemmas and contracts of functions. No condition. -/
import Derived.Test.YtbnglnbcfabmgaaPf6
import Derived.Test.YtbnglnbcfabmgaaPf14
import Derived.Test.YtbnglnbcfabmgaaPf22
import Derived.Test.YtbnglnbcfabmgaaPf24
namespace Go.Proofs.Ytbnglnbcfabmgaa
open Go.RowKit
set_option linter.unusedVariables false
set_option maxHeartbeats 2000000
set_option maxRecDepth 20000
set_option linter.unusedSimpArgs false
attribute [local go_sem] openAt openUpon
theorem bx_set3 {W : World} {g : Nat} {u0 u1 u2 v0 v1 v2 : Value} {T : TypeId} (h : W.heap[g]? = some (.cells #[u0, u1, u2] T)) : (((W.setCell ⟨g, 0, none⟩ v0).setCell ⟨g, 1, none⟩ v1).setCell ⟨g, 2, none⟩ v2).heap[g]? = some (.cells #[v0, v1, v2] T) := by
 simpa using blk_set (o := 2) (v := v2) (blk_set (o := 1) (v := v1) (blk_set (o := 0) (v := v0) h))
theorem ptMinus_any (x y e : Int) (w : World) (hy : -9223372036854775807 ≤ y ∧ y ≤ 9223372036854775807) : Calls Try.prog 71 #[.agg #[.int .i64 x, .int .i64 y, .int .i64 e]] w fun r w' =>
  r = .returned (.agg #[.int .i64 x, .int .i64 (-y), .int .i64 e]) ∧ Below w.heap.size w w' := by
 go_enter Try.func71, Try.ntmps71
 go_wp2_with fail
 refine bodyPost_ret (v := _) (by simp [results, Try.results71, go_sem, *]) rfl ⟨rfl, ?_⟩
 exact bel
theorem ptM_step {A x y e : Int} {k : Nat} (h : (ptM A x y e k).2.2.2 = true) : ptM A x y e (k + 1) = ptS A (ptM A x y e k).1 (ptM A x y e k).2.1 (ptM A x y e k).2.2.1 x y e := by
 show (if _ then _ else _) = _
 rw [if_pos h]
theorem ptM_out {A B x y e : Int} {k : Nat} (hA : -1000 ≤ A ∧ A ≤ 1000) (hB : -10000 ≤ B ∧ B ≤ 10000) (hp : ptB A B x y e = true) (h : (ptM A x y e k).2.2.2 = false) (j : Nat) (hj : k ≤ j) : ptM A x y e j = (0, 0, 0, false) := by
 by_cases hk : k = j
 ·subst hk
  rcases ptM_ok hA hB hp k with ⟨h1, _⟩ | h1
  ·rw [h] at h1; cases h1
  ·exact h1
 ·exact ptM_no h j (by omega)
theorem pt4 (r : P4) : ∃ a b c d, r = (a, b, c, d) := ⟨_, _, _, _, rfl⟩
/-- the loop's state: k sums are done, all of them points -/
def PtRel (w w4 : World) (A B x y e : Int) (N : Nat) (nv : Value) (wr : World) : Prop := ∃ (k : Nat) (a b c : Int), nv = .int .i64 ((N : Int) - k) ∧ k ≤ N ∧ ptM A x y e k = (a, b, c, true) ∧
 wr.heap[w.heap.size]? = some (.cells #[.int .i64 A, .int .i64 B] 29 (0, 0)) ∧ wr.heap[w.heap.size + 1]? = some (.cells #[.int .i64 x, .int .i64 y, .int .i64 e] 45 (0, 0)) ∧
 wr.heap[w.heap.size + 1 + 1]? = some (.cells #[.int .i64 0, .int .i64 0, .int .i64 0] 45 (0, 0)) ∧ wr.heap[w4.heap.size]? = some (.cells #[.int .i64 a, .int .i64 b, .int .i64 c] 45 (0, 0)) ∧ Below w.heap.size w wr
theorem ptTimes_any (A B x y e n : Int) (w : World) (hA : -1000 ≤ A ∧ A ≤ 1000) (hB : -10000 ≤ B ∧ B ≤ 10000) (hp : ptB A B x y e = true) (hn : -12 ≤ n ∧ n ≤ 12) :
  Calls Try.prog 52 #[.agg #[.int .i64 A, .int .i64 B], .agg #[.int .i64 x, .int .i64 y, .int .i64 e], .int .i64 n] w fun r w' =>
   r = .returned (.tuple #[.agg #[.int .i64 (ptN A x y e n).1, .int .i64 (ptN A x y e n).2.1, .int .i64 (ptN A x y e n).2.2.1], .bool (ptN A x y e n).2.2.2]) ∧ Below w.heap.size w w' := by
 obtain ⟨r1, r2, r3, r4, hr⟩ := pt4 (ptN A x y e n)
 rw [hr]
 have hyb : -3000000 ≤ y ∧ y ≤ 3000000 := by
  rcases pt_cases hA hB hp with ⟨_, rfl, _⟩ | ⟨_, _, h, _⟩
  ·omega
  ·exact h
 by_cases h0 : n < 0
 ·have HR := Lib.hid (show ptM A x (-y) e n.natAbs = (r1, r2, r3, r4) by rw [← hr, ptN]; first | rw [if_pos h0] | rw [if_neg h0])
  have hpm : ptB A B x (-y) e = true := by first | exact hp | exact ptB_neg hp
  obtain ⟨N, hN⟩ : ∃ N : Nat, n.natAbs = N := ⟨_, rfl⟩
  have hNb : N ≤ 12 := by omega
  rw [hN] at HR
  obtain rfl : n = -(N : Int) := by omega
  clear hr hp
  have tok1 := trivial
  have tok2 := trivial
  have tok3 := trivial
  go_enter Try.func52, Try.ntmps52
  go_upto_region 2 with fail
  refine chk (fun W => Below w.heap.size w W ∧ W.heap[w.heap.size]? = some (.cells #[.int .i64 A, .int .i64 B] 29 (0, 0)) ∧ W.heap[w.heap.size + 1]? = some (.cells #[.int .i64 x, .int .i64 y, .int .i64 e] 45 (0, 0)) ∧ W.heap[w.heap.size + 1 + 1]? = some (.cells #[.int .i64 0, .int .i64 0, .int .i64 0] 45 (0, 0))) (by refine ⟨?_, ?_, ?_, ?_⟩ <;> (exact ck)) ?_
  rintro w40 ⟨hB40, xb, xc, xd⟩
  obtain ⟨zw, zx, ya, vb⟩ := bk2 xb
  replace xb := Lib.hid xb
  obtain ⟨zy, zz, ja, yb, vc⟩ := bk3 xc
  replace xc := Lib.hid xc
  obtain ⟨jb, jc, jd, yc, vd⟩ := bk3 xd
  replace xd := Lib.hid xd
  go_upto_region 3 with (first | (have _t := tok1; go_at_call 71; refine (ptMinus_any x y e _ (by omega)).mono ?_; rintro e w1 ⟨rfl, hb1⟩; clear tok1 _t; have hz1 := hb1.size; (try simp only [sA, sB, sC, sD] at hz1); (try (obtain ⟨kq, yd⟩ := cfAt hb1 (w.heap.size); have je := kq 0; have jf := kq 1; clear kq; simp [go_sem, *] at je jf yd)); (try have vf : w.heap.size < w1.heap.size := by omega); (try (obtain ⟨kq, ye⟩ := cfAt hb1 (w.heap.size + 1); have jg := kq 0; have jh := kq 1; have ji := kq 2; clear kq; simp [go_sem, *] at jg jh ji ye)); (try have vg : w.heap.size + 1 < w1.heap.size := by omega); (try (obtain ⟨kq, yf⟩ := cfAt hb1 (w.heap.size + 1 + 1); have jj := kq 0; have jk := kq 1; have jl := kq 2; clear kq; simp [go_sem, *] at jj jk jl yf)); (try have vh : w.heap.size + 1 + 1 < w1.heap.size := by omega)))
  have qf := (hb1.block (w.heap.size) (blk_lt' xb.out)).trans xb.out
  clear zw zx ya xb
  obtain ⟨xe, xf, xw, jm⟩ := bk2 qf
  replace qf := Lib.hid qf
  have qg := (hb1.block (w.heap.size + 1) (blk_lt' xc.out)).trans xc.out
  clear zy zz ja yb xc
  obtain ⟨xg, xh, xi, xx, jn⟩ := bk3 qg
  replace qg := Lib.hid qg
  have qa := (hb1.block (w.heap.size + 1 + 1) (blk_lt' xd.out)).trans xd.out
  clear jb jc jd yc xd
  obtain ⟨qh, qi, qj, xo, zp⟩ := bk3 qa
  replace qa := Lib.hid qa
  have hB1 : Below w.heap.size w w1 := below_via hb1 (by assumption) (by go_size)
  replace qf := qf.out
  replace qg := qg.out
  replace qa := qa.out
  refine chk (fun W => Below w.heap.size w W ∧ W.heap[w.heap.size]? = some (.cells #[.int .i64 A, .int .i64 B] 29 (0, 0)) ∧ W.heap[w.heap.size + 1]? = some (.cells #[.int .i64 x, .int .i64 (-y), .int .i64 e] 45 (0, 0)) ∧ W.heap[w.heap.size + 1 + 1]? = some (.cells #[.int .i64 0, .int .i64 0, .int .i64 0] 45 (0, 0))) (by refine ⟨?_, ?_, ?_, ?_⟩ <;> (exact ck)) ?_
  clear xe xf xw qf
  clear xg xh xi xx qg
  clear qh qi qj xo qa
  clear hB1
  rintro w41 ⟨hB41, qb, qc, qd⟩
  obtain ⟨qt, qu, xr, yg⟩ := bk2 qb
  replace qb := Lib.hid qb
  obtain ⟨qv, qw, qx, xt, yh⟩ := bk3 qc
  replace qc := Lib.hid qc
  obtain ⟨qy, qz, xa, xu, yi⟩ := bk3 qd
  replace qd := Lib.hid qd
  clear h0 hN hn
  go_wp2_with fail
  go_loopw [2] (fun nv wr => PtRel w w41 A B x (-y) e N nv wr) (fun nv _ => (intOf nv).toNat)
  case atStart =>
   have q1 := qb.out
   have q2 := qc.out
   have q3 := qd.out
   exact ⟨0, 0, 0, 0, by simp, by omega, rfl, ck, ck, ck, ck, ck⟩
  case round =>
   obtain ⟨k, a, b, c, rfl, hk, hm, hC, hP, hO, hS, hbw⟩ := hrel
   have HM := Lib.hid hm
   clear hm
   by_cases hlt : k < N
   ·have hgt : (0 : Int) < (N : Int) - k := by omega
    have hok := ptM_ok hA hB hpm k
    rw [HM.out] at hok
    have hpk : ptB A B a b c = true := by rcases hok with ⟨_, h⟩ | h; exact h; simp at h
    have hst := ptM_step (show (ptM A x (-y) e k).2.2.2 = true by rw [HM.out])
    rw [HM.out] at hst
    have TA := fun W : World => ptAdd_any A B a b c x (-y) e W hA hB hpk hpm
    obtain ⟨a2, b2, c2, ok, hq⟩ := pt4 (ptS A a b c x (-y) e)
    simp only [hq] at TA hst
    have HST := Lib.hid hst
    clear hok hpk hst hq
    go_upto_region 7 with fail
    replace qb := qb.out
    replace qc := qc.out
    replace qd := qd.out
    refine chk (fun W => Below w.heap.size w W ∧ W.heap[w.heap.size]? = some (.cells #[.int .i64 A, .int .i64 B] 29 (0, 0)) ∧ W.heap[w.heap.size + 1]? = some (.cells #[.int .i64 x, .int .i64 (-y), .int .i64 e] 45 (0, 0)) ∧ W.heap[w.heap.size + 1 + 1]? = some (.cells #[.int .i64 0, .int .i64 0, .int .i64 0] 45 (0, 0)) ∧ W.heap[w41.heap.size]? = some (.cells #[.int .i64 a, .int .i64 b, .int .i64 c] 45 (0, 0))) (by refine ⟨?_, ?_, ?_, ?_, ?_⟩ <;> (exact ck)) ?_
    clear qt qu xr qb
    clear qv qw qx xt qc
    clear qy qz xa xu qd
    clear hB41
    rintro w1 ⟨hB1, qf, qg, qa, qe⟩
    obtain ⟨xe, xf, xw, jm⟩ := bk2 qf
    replace qf := Lib.hid qf
    obtain ⟨xg, xh, xi, xx, jn⟩ := bk3 qg
    replace qg := Lib.hid qg
    obtain ⟨qh, qi, qj, xo, zp⟩ := bk3 qa
    replace qa := Lib.hid qa
    obtain ⟨xj, xm, xn, xy, zq⟩ := bk3 qe
    replace qe := Lib.hid qe
    clear hC hP hO hS
    go_upto_region 8 with (first | (have _t := tok3; go_at_call 53; (with_reducible refine ((TA _)).mono ?_); rintro e w3 ⟨rfl, hb3⟩; clear tok3 _t; have hz3 := hb3.size; (try simp only [sA, sB, sC, sD] at hz3)))
    have qk := (hb3.block (w.heap.size) (blk_lt' qf.out)).trans qf.out
    clear xe xf xw qf
    obtain ⟨xz, za, zr, yj⟩ := bk2 qk
    replace qk := Lib.hid qk
    have ql := (hb3.block (w.heap.size + 1) (blk_lt' qg.out)).trans qg.out
    clear xg xh xi xx qg
    obtain ⟨zb, zc, zd, zt, yl⟩ := bk3 ql
    replace ql := Lib.hid ql
    have qm := (hb3.block (w.heap.size + 1 + 1) (blk_lt' qa.out)).trans qa.out
    clear qh qi qj xo qa
    obtain ⟨ze, zg, zh, zu, ym⟩ := bk3 qm
    replace qm := Lib.hid qm
    have qn := (hb3.block (w41.heap.size) (blk_lt' qe.out)).trans qe.out
    clear xj xm xn xy qe
    obtain ⟨zi, zj, zk, zv, yn⟩ := bk3 qn
    replace qn := Lib.hid qn
    have hB3 : Below w.heap.size w w3 := below_via hb3 (by assumption) (by go_size)
    replace qk := qk.out
    replace ql := ql.out
    replace qm := qm.out
    replace qn := qn.out
    refine chk (fun W => Below w.heap.size w W ∧ W.heap[w.heap.size]? = some (.cells #[.int .i64 A, .int .i64 B] 29 (0, 0)) ∧ W.heap[w.heap.size + 1]? = some (.cells #[.int .i64 x, .int .i64 (-y), .int .i64 e] 45 (0, 0)) ∧ W.heap[w.heap.size + 1 + 1]? = some (.cells #[.int .i64 0, .int .i64 0, .int .i64 0] 45 (0, 0)) ∧ W.heap[w41.heap.size]? = some (.cells #[.int .i64 a, .int .i64 b, .int .i64 c] 45 (0, 0)) ∧ W.heap[w3.heap.size]? = some (.cells #[.int .i64 a2, .int .i64 b2, .int .i64 c2] 45 (0, 0))) (by refine ⟨?_, ?_, ?_, ?_, ?_, ?_⟩ <;> (exact ck)) ?_
    clear xz za zr qk
    clear zb zc zd zt ql
    clear ze zg zh zu qm
    clear zi zj zk zv qn
    clear hB3
    rintro w4 ⟨hB4, qp, qq, qo, qr, xp⟩
    obtain ⟨jo, jp, yo, yp⟩ := bk2 qp
    replace qp := Lib.hid qp
    obtain ⟨jq, jr, jt, yr, yt⟩ := bk3 qq
    replace qq := Lib.hid qq
    obtain ⟨zm, zn, zo, yu, yv⟩ := bk3 qo
    replace qo := Lib.hid qo
    obtain ⟨ju, jv, jw, yw, yx⟩ := bk3 qr
    replace qr := Lib.hid qr
    obtain ⟨jx, jy, jz, yz, va⟩ := bk3 xp
    replace xp := Lib.hid xp
    cases ok
    ·have hR := ptM_out hA hB hpm (show (ptM A x (-y) e (k + 1)).2.2.2 = false by rw [HST.out]) N (by omega)
     rw [HR.out] at hR
     obtain ⟨rfl, rfl, rfl, rfl⟩ : r1 = 0 ∧ r2 = 0 ∧ r3 = 0 ∧ r4 = false := by simpa using hR
     go_upto_region 9 with fail
     iterate 40 (first | (with_reducible show bodyPost _ _ _ _ _ _) | (with_reducible refine wp_ret ?_) | go_values | go_skip | go_guarded | go_step | go_upon | go_back | skip)
     refine bodyPost_ret (v := .tuple #[.agg #[.int .i64 0, .int .i64 0, .int .i64 0], .bool false]) (by simp [results, Try.results52, go_sem, zm, zn, zo]) rfl ⟨rfl, ?_⟩
     have HO := qo.out
     (exact ck)
    ·have _t := trivial
     go_wp2_with fail
     go_roundw
     have q1 := qp.out
     have q2 := qq.out
     have q3 := qo.out
     have q4 := qr.out
     case rel => exact ⟨k + 1, a2, b2, c2, by go_num, by omega, HST.out, ck, ck, ck, ck, ck⟩
     case measure => simp [intOf]; omega
   ·obtain rfl : k = N := by omega
    have hR := HR.out
    rw [HM.out] at hR
    obtain ⟨rfl, rfl, rfl, rfl⟩ : a = r1 ∧ b = r2 ∧ c = r3 ∧ true = r4 := by simpa using hR
    have hgt : ¬ (0 : Int) < (k : Int) - k := by omega
    go_upto_region 11 with fail
    replace qb := qb.out
    replace qc := qc.out
    replace qd := qd.out
    refine chk (fun W => Below w.heap.size w W ∧ W.heap[w.heap.size + 1 + 1]? = some (.cells #[.int .i64 0, .int .i64 0, .int .i64 0] 45 (0, 0)) ∧ W.heap[w41.heap.size]? = some (.cells #[.int .i64 a, .int .i64 b, .int .i64 c] 45 (0, 0))) (by refine ⟨?_, ?_, ?_⟩ <;> (exact ck)) ?_
    clear qt qu xr qb
    clear qv qw qx xt qc
    clear qy qz xa xu qd
    clear hB41
    rintro w1 ⟨hB1, qa, qe⟩
    obtain ⟨qh, qi, qj, xo, zp⟩ := bk3 qa
    replace qa := Lib.hid qa
    obtain ⟨xj, xm, xn, xy, zq⟩ := bk3 qe
    replace qe := Lib.hid qe
    iterate 40 (first | (with_reducible show bodyPost _ _ _ _ _ _) | (with_reducible refine wp_ret ?_) | go_values | go_skip | go_guarded | go_step | go_upon | go_back | skip)
    refine bodyPost_ret (v := .tuple #[.agg #[.int .i64 a, .int .i64 b, .int .i64 c], .bool true]) (by simp [results, Try.results52, go_sem, qh, qi, qj]) rfl ⟨rfl, ?_⟩
    have HO := qa.out
    (exact ck)
 ·have HR := Lib.hid (show ptM A x y e n.natAbs = (r1, r2, r3, r4) by rw [← hr, ptN]; first | rw [if_pos h0] | rw [if_neg h0])
  have hpm : ptB A B x y e = true := by first | exact hp | exact ptB_neg hp
  obtain ⟨N, hN⟩ : ∃ N : Nat, n.natAbs = N := ⟨_, rfl⟩
  have hNb : N ≤ 12 := by omega
  rw [hN] at HR
  obtain rfl : n = (N : Int) := by omega
  clear hr hp
  have tok1 := trivial
  have tok2 := trivial
  have tok3 := trivial
  go_enter Try.func52, Try.ntmps52
  go_upto_region 4 with fail
  refine chk (fun W => Below w.heap.size w W ∧ W.heap[w.heap.size]? = some (.cells #[.int .i64 A, .int .i64 B] 29 (0, 0)) ∧ W.heap[w.heap.size + 1]? = some (.cells #[.int .i64 x, .int .i64 y, .int .i64 e] 45 (0, 0)) ∧ W.heap[w.heap.size + 1 + 1]? = some (.cells #[.int .i64 0, .int .i64 0, .int .i64 0] 45 (0, 0))) (by refine ⟨?_, ?_, ?_, ?_⟩ <;> (exact ck)) ?_
  rintro w41 ⟨hB41, qb, qc, qd⟩
  obtain ⟨qt, qu, xr, yg⟩ := bk2 qb
  replace qb := Lib.hid qb
  obtain ⟨qv, qw, qx, xt, yh⟩ := bk3 qc
  replace qc := Lib.hid qc
  obtain ⟨qy, qz, xa, xu, yi⟩ := bk3 qd
  replace qd := Lib.hid qd
  clear h0 hN hn
  go_wp2_with fail
  go_loopw [2] (fun nv wr => PtRel w w41 A B x y e N nv wr) (fun nv _ => (intOf nv).toNat)
  case atStart =>
   have q1 := qb.out
   have q2 := qc.out
   have q3 := qd.out
   exact ⟨0, 0, 0, 0, by simp, by omega, rfl, ck, ck, ck, ck, ck⟩
  case round =>
   obtain ⟨k, a, b, c, rfl, hk, hm, hC, hP, hO, hS, hbw⟩ := hrel
   have HM := Lib.hid hm
   clear hm
   by_cases hlt : k < N
   ·have hgt : (0 : Int) < (N : Int) - k := by omega
    have hok := ptM_ok hA hB hpm k
    rw [HM.out] at hok
    have hpk : ptB A B a b c = true := by rcases hok with ⟨_, h⟩ | h; exact h; simp at h
    have hst := ptM_step (show (ptM A x y e k).2.2.2 = true by rw [HM.out])
    rw [HM.out] at hst
    have TA := fun W : World => ptAdd_any A B a b c x y e W hA hB hpk hpm
    obtain ⟨a2, b2, c2, ok, hq⟩ := pt4 (ptS A a b c x y e)
    simp only [hq] at TA hst
    have HST := Lib.hid hst
    clear hok hpk hst hq
    go_upto_region 7 with fail
    replace qb := qb.out
    replace qc := qc.out
    replace qd := qd.out
    refine chk (fun W => Below w.heap.size w W ∧ W.heap[w.heap.size]? = some (.cells #[.int .i64 A, .int .i64 B] 29 (0, 0)) ∧ W.heap[w.heap.size + 1]? = some (.cells #[.int .i64 x, .int .i64 y, .int .i64 e] 45 (0, 0)) ∧ W.heap[w.heap.size + 1 + 1]? = some (.cells #[.int .i64 0, .int .i64 0, .int .i64 0] 45 (0, 0)) ∧ W.heap[w41.heap.size]? = some (.cells #[.int .i64 a, .int .i64 b, .int .i64 c] 45 (0, 0))) (by refine ⟨?_, ?_, ?_, ?_, ?_⟩ <;> (exact ck)) ?_
    clear qt qu xr qb
    clear qv qw qx xt qc
    clear qy qz xa xu qd
    clear hB41
    rintro w1 ⟨hB1, qf, qg, qa, qe⟩
    obtain ⟨xe, xf, xw, jm⟩ := bk2 qf
    replace qf := Lib.hid qf
    obtain ⟨xg, xh, xi, xx, jn⟩ := bk3 qg
    replace qg := Lib.hid qg
    obtain ⟨qh, qi, qj, xo, zp⟩ := bk3 qa
    replace qa := Lib.hid qa
    obtain ⟨xj, xm, xn, xy, zq⟩ := bk3 qe
    replace qe := Lib.hid qe
    clear hC hP hO hS
    go_upto_region 8 with (first | (have _t := tok3; go_at_call 53; (with_reducible refine ((TA _)).mono ?_); rintro e w3 ⟨rfl, hb3⟩; clear tok3 _t; have hz3 := hb3.size; (try simp only [sA, sB, sC, sD] at hz3)))
    have qk := (hb3.block (w.heap.size) (blk_lt' qf.out)).trans qf.out
    clear xe xf xw qf
    obtain ⟨xz, za, zr, yj⟩ := bk2 qk
    replace qk := Lib.hid qk
    have ql := (hb3.block (w.heap.size + 1) (blk_lt' qg.out)).trans qg.out
    clear xg xh xi xx qg
    obtain ⟨zb, zc, zd, zt, yl⟩ := bk3 ql
    replace ql := Lib.hid ql
    have qm := (hb3.block (w.heap.size + 1 + 1) (blk_lt' qa.out)).trans qa.out
    clear qh qi qj xo qa
    obtain ⟨ze, zg, zh, zu, ym⟩ := bk3 qm
    replace qm := Lib.hid qm
    have qn := (hb3.block (w41.heap.size) (blk_lt' qe.out)).trans qe.out
    clear xj xm xn xy qe
    obtain ⟨zi, zj, zk, zv, yn⟩ := bk3 qn
    replace qn := Lib.hid qn
    have hB3 : Below w.heap.size w w3 := below_via hb3 (by assumption) (by go_size)
    replace qk := qk.out
    replace ql := ql.out
    replace qm := qm.out
    replace qn := qn.out
    refine chk (fun W => Below w.heap.size w W ∧ W.heap[w.heap.size]? = some (.cells #[.int .i64 A, .int .i64 B] 29 (0, 0)) ∧ W.heap[w.heap.size + 1]? = some (.cells #[.int .i64 x, .int .i64 y, .int .i64 e] 45 (0, 0)) ∧ W.heap[w.heap.size + 1 + 1]? = some (.cells #[.int .i64 0, .int .i64 0, .int .i64 0] 45 (0, 0)) ∧ W.heap[w41.heap.size]? = some (.cells #[.int .i64 a, .int .i64 b, .int .i64 c] 45 (0, 0)) ∧ W.heap[w3.heap.size]? = some (.cells #[.int .i64 a2, .int .i64 b2, .int .i64 c2] 45 (0, 0))) (by refine ⟨?_, ?_, ?_, ?_, ?_, ?_⟩ <;> (exact ck)) ?_
    clear xz za zr qk
    clear zb zc zd zt ql
    clear ze zg zh zu qm
    clear zi zj zk zv qn
    clear hB3
    rintro w4 ⟨hB4, qp, qq, qo, qr, xp⟩
    obtain ⟨jo, jp, yo, yp⟩ := bk2 qp
    replace qp := Lib.hid qp
    obtain ⟨jq, jr, jt, yr, yt⟩ := bk3 qq
    replace qq := Lib.hid qq
    obtain ⟨zm, zn, zo, yu, yv⟩ := bk3 qo
    replace qo := Lib.hid qo
    obtain ⟨ju, jv, jw, yw, yx⟩ := bk3 qr
    replace qr := Lib.hid qr
    obtain ⟨jx, jy, jz, yz, va⟩ := bk3 xp
    replace xp := Lib.hid xp
    cases ok
    ·have hR := ptM_out hA hB hpm (show (ptM A x y e (k + 1)).2.2.2 = false by rw [HST.out]) N (by omega)
     rw [HR.out] at hR
     obtain ⟨rfl, rfl, rfl, rfl⟩ : r1 = 0 ∧ r2 = 0 ∧ r3 = 0 ∧ r4 = false := by simpa using hR
     go_upto_region 9 with fail
     iterate 40 (first | (with_reducible show bodyPost _ _ _ _ _ _) | (with_reducible refine wp_ret ?_) | go_values | go_skip | go_guarded | go_step | go_upon | go_back | skip)
     refine bodyPost_ret (v := .tuple #[.agg #[.int .i64 0, .int .i64 0, .int .i64 0], .bool false]) (by simp [results, Try.results52, go_sem, zm, zn, zo]) rfl ⟨rfl, ?_⟩
     have HO := qo.out
     (exact ck)
    ·have _t := trivial
     go_wp2_with fail
     go_roundw
     have q1 := qp.out
     have q2 := qq.out
     have q3 := qo.out
     have q4 := qr.out
     case rel => exact ⟨k + 1, a2, b2, c2, by go_num, by omega, HST.out, ck, ck, ck, ck, ck⟩
     case measure => simp [intOf]; omega
   ·obtain rfl : k = N := by omega
    have hR := HR.out
    rw [HM.out] at hR
    obtain ⟨rfl, rfl, rfl, rfl⟩ : a = r1 ∧ b = r2 ∧ c = r3 ∧ true = r4 := by simpa using hR
    have hgt : ¬ (0 : Int) < (k : Int) - k := by omega
    go_upto_region 11 with fail
    replace qb := qb.out
    replace qc := qc.out
    replace qd := qd.out
    refine chk (fun W => Below w.heap.size w W ∧ W.heap[w.heap.size + 1 + 1]? = some (.cells #[.int .i64 0, .int .i64 0, .int .i64 0] 45 (0, 0)) ∧ W.heap[w41.heap.size]? = some (.cells #[.int .i64 a, .int .i64 b, .int .i64 c] 45 (0, 0))) (by refine ⟨?_, ?_, ?_⟩ <;> (exact ck)) ?_
    clear qt qu xr qb
    clear qv qw qx xt qc
    clear qy qz xa xu qd
    clear hB41
    rintro w1 ⟨hB1, qa, qe⟩
    obtain ⟨qh, qi, qj, xo, zp⟩ := bk3 qa
    replace qa := Lib.hid qa
    obtain ⟨xj, xm, xn, xy, zq⟩ := bk3 qe
    replace qe := Lib.hid qe
    iterate 40 (first | (with_reducible show bodyPost _ _ _ _ _ _) | (with_reducible refine wp_ret ?_) | go_values | go_skip | go_guarded | go_step | go_upon | go_back | skip)
    refine bodyPost_ret (v := .tuple #[.agg #[.int .i64 a, .int .i64 b, .int .i64 c], .bool true]) (by simp [results, Try.results52, go_sem, qh, qi, qj]) rfl ⟨rfl, ?_⟩
    have HO := qa.out
    (exact ck)
end Go.Proofs.Ytbnglnbcfabmgaa
