/- Lemmas and contracts of functions. No condition. -/
import Derived.Test.YtnkmgpmehkholaaGreatPq42
import Derived.Test.YtnkmgpmehkholaaGreatPq43
namespace Go.Proofs.YtnkmgpmehkholaaGreat
open Go.RowKit
set_option linter.unusedVariables false
set_option maxHeartbeats 1000000
set_option maxRecDepth 20000
set_option linter.unusedSimpArgs false
attribute [local go_sem] openAt openUpon
def BiRel (w : World) (A B x y e C : Int) (st : Nat → RSt) (gB N : Nat) (nv : Value) (wr : World) : Prop := ∃ k : Nat, nv = .int .i64 k ∧ k ≤ 5 ∧ bN st (5 - k) k = N ∧ wr.heap[w.heap.size]? = some (.cells #[.int .i64 A, .int .i64 B] 32 (0, 0)) ∧ wr.heap[w.heap.size + 1]? = some (.cells #[.int .i64 x, .int .i64 y, .int .i64 e] 34 (0, 0)) ∧
 wr.heap[w.heap.size + 1 + 1]? = some (.cells #[.int .i64 0, .int .i64 0] 44 (0, 0)) ∧ wr.heap[gB]? = some (.cells #[.int .i64 (bLo C st k), .int .i64 (bHi C st k)] 44 (0, 0)) ∧ Below w.heap.size w wr
theorem bestHeight_any (A B x y e : Int) (w : World) (hA : -1000 ≤ A ∧ A ≤ 1000) (hBB : -10000 ≤ B ∧ B ≤ 10000) (hcv : coV A B ≠ 0) (hx : -10000 ≤ x ∧ x ≤ 10000) (he : 0 ≤ e ∧ e ≤ 20) :
  Calls Tryz.prog 59 #[.agg #[.int .i64 A, .int .i64 B], .agg #[.int .i64 x, .int .i64 y, .int .i64 e]] w fun r w' => r = .returned (.tuple #[.agg #[.int .i64 (bLo (dcV A B) (ptSt A B x e) (bestN (ptSt A B x e))), .int .i64 (bHi (dcV A B) (ptSt A B x e) (bestN (ptSt A B x e)))], .int .i64 (bestN (ptSt A B x e)), .bool (beOk (dcV A B) (ptSt A B x e))]) ∧ Below w.heap.size w w' := by
 have hC := dc_bd hA hBB
 have hok := fun k => ptSt_ok (A := A) (B := B) hx he k
 have TK := fun (W : World) (k : Nat) (hk : k ≤ 5) => heightAt_any A B x y e k W hA hBB hcv hx he hk
 have h00 := ptSt_ok0 (A := A) (B := B) (x := x) (e := e)
 generalize hst : ptSt A B x e = st at *
 generalize dcV A B = C at *
 clear hst
 have T0 : ∀ W, Calls Tryz.prog 78 #[.agg #[.int .i64 A, .int .i64 B], .agg #[.int .i64 x, .int .i64 y, .int .i64 e], .int .i64 0] W fun r w' => r = .returned (.tuple #[.agg #[.int .i64 (bLo C st 0), .int .i64 (bHi C st 0)], .bool true]) ∧ Below W.heap.size W w' := fun W => by
  have := TK W 0 (by omega)
  rw [h00] at this
  exact this
 obtain ⟨N, hN⟩ : ∃ N, bestN st = N := ⟨_, rfl⟩
 have hbo : beOk C st = validB (bLo C st N) (bHi C st N) := by rw [beOk, hN]
 rw [hN, hbo]
 have HBD := Lib.hid (fun k => b_bd hC hok k)
 have HTB := Lib.hid (fun k => ht_bd (n := k) hC (hok k))
 have TKH := Lib.hid TK
 have HN := Lib.hid hN
 clear hok TK h00 hN hbo
 have tok1 := trivial
 have tok2 := trivial
 have tok3 := trivial
 have tok4 := trivial
 have tok5 := trivial
 have tok6 := trivial
 have tok7 := trivial
 have tok8 := trivial
 go_enter Tryz.func59, Tryz.ntmps59
 go_wp2_with (first | (have _t := tok1; go_at_call 78; (with_reducible refine ((T0 _)).mono ?_); rintro e w1 ⟨rfl, hb1⟩; clear tok1 _t; have hz1 := hb1.size; (try simp only [sA, sB, sC, sD] at hz1); (try (obtain ⟨kq, zg⟩ := cfAt hb1 (w.heap.size); have xg := kq 0; have xh := kq 1; clear kq; simp [go_sem, *] at xg xh zg)); (try have jt : w.heap.size < w1.heap.size := by omega); (try (obtain ⟨kq, zh⟩ := cfAt hb1 (w.heap.size + 1); have xi := kq 0; have xj := kq 1; have xk := kq 2; clear kq; simp [go_sem, *] at xi xj xk zh)); (try have ju : w.heap.size + 1 < w1.heap.size := by omega); (try (obtain ⟨kq, zi⟩ := cfAt hb1 (w.heap.size + 1 + 1); have xl := kq 0; have xm := kq 1; clear kq; simp [go_sem, *] at xl xm zi)); (try have jv : w.heap.size + 1 + 1 < w1.heap.size := by omega)))
 have hz1' := hb1.size
 simp only [World.size_alloc] at hz1'
 have HC1 : w1.heap[w.heap.size]? = some (.cells #[.int .i64 A, .int .i64 B] 32 (0, 0)) := (hb1.block _ (by go_size)).trans ck
 have HP1 : w1.heap[w.heap.size + 1]? = some (.cells #[.int .i64 x, .int .i64 y, .int .i64 e] 34 (0, 0)) := (hb1.block _ (by go_size)).trans ck
 have HO1 : w1.heap[w.heap.size + 1 + 1]? = some (.cells #[.int .i64 0, .int .i64 0] 44 (0, 0)) := (hb1.block _ (by go_size)).trans ck
 have HB1 : Below w.heap.size w w1 := by exact bel
 generalize hgB : w1.heap.size = gB at *
 have HGB := Lib.hid hgB
 go_loopw [9] (fun nv wr => BiRel w A B x y e C st gB N nv wr) (fun nv _ => (5 - intOf nv).toNat)
 case atStart => exact ⟨0, rfl, by omega, HN.out, ck, ck, ck, bx_new HGB.out, HB1.alloc (by rw [HGB.out]; omega) _⟩
 case round =>
  clear HC1 HP1 HO1 HB1 hb1
  obtain ⟨k, rfl, hk, hN, hC2, hP, hO, hX, hbw⟩ := hrel
  have hkc : (k : Int) ≤ 5 := by omega
  have HNk := Lib.hid hN
  have hbd := HBD.out k
  clear hN
  by_cases hlt : k < 5
  ·have hlc : (k : Int) < 5 := by omega
   have TH0 := TKH.out
   cases hs : htOk (st (k + 1)) with
   | false =>
    have hbN := Lib.hid ((bN_stop hs).symm.trans HNk.out)
    obtain ⟨lo1, hlo⟩ : ∃ v, htLo C (k + 1) (st (k + 1)) = v := ⟨_, rfl⟩
    obtain ⟨hi1, hhi⟩ : ∃ v, htHi C (k + 1) (st (k + 1)) = v := ⟨_, rfl⟩
    have TH : ∀ W, Calls Tryz.prog 78 #[.agg #[.int .i64 A, .int .i64 B], .agg #[.int .i64 x, .int .i64 y, .int .i64 e], .int .i64 ((k : Int) + 1)] W fun r w' => r = .returned (.tuple #[.agg #[.int .i64 lo1, .int .i64 hi1], .bool false]) ∧ Below W.heap.size W w' := fun W => by
     have := TH0 W (k + 1) (by omega)
     rw [hs, hlo, hhi] at this
     exact this
    clear TH0 hs hlo hhi
    obtain rfl : k = N := hbN.out
    have TV := fun W => valid_any (bLo C st k) (bHi C st k) W
    generalize hlo : bLo C st k = lo at *
    generalize hhi : bHi C st k = hi at *
    have HLO := Lib.hid hlo
    have HHI := Lib.hid hhi
    clear hlo hhi
    go_upto_region 4 with (fail)
    refine chk (fun W => Below w.heap.size w W ∧ W.heap[w.heap.size]? = some (.cells #[.int .i64 A, .int .i64 B] 32 (0, 0)) ∧ W.heap[w.heap.size + 1]? = some (.cells #[.int .i64 x, .int .i64 y, .int .i64 e] 34 (0, 0)) ∧ W.heap[w.heap.size + 1 + 1]? = some (.cells #[.int .i64 0, .int .i64 0] 44 (0, 0)) ∧ W.heap[gB]? = some (.cells #[.int .i64 lo, .int .i64 hi] 44 (0, 0))) (by refine ⟨?_, ?_, ?_, ?_, ?_⟩ <;> (exact ck)) ?_
    rintro w2 ⟨hB2, qe, qf, qg, qh⟩
    obtain ⟨zn, zo, yx, gr⟩ := bk2 qe
    replace qe := Lib.hid qe
    obtain ⟨zp, zq, zr, yz, gt⟩ := bk3 qf
    replace qf := Lib.hid qf
    obtain ⟨zt, zu, va, gu⟩ := bk2 qg
    replace qg := Lib.hid qg
    obtain ⟨zv, zw, vb, gy⟩ := bk2 qh
    replace qh := Lib.hid qh
    clear hC2 hP hO hX
    go_upto_region 8 with (first | (have _t := tok3; go_at_call 78; (with_reducible refine ((TH _)).mono ?_); rintro e w3 ⟨rfl, hb3⟩; clear tok3 _t; have hz3 := hb3.size; (try simp only [sA, sB, sC, sD] at hz3); (try (obtain ⟨kq, qz⟩ := cfAt hb3 (w.heap.size); have qm := kq 0; have qn := kq 1; clear kq; simp [go_sem, *] at qm qn qz)); (try have zj : w.heap.size < w3.heap.size := by omega); (try (obtain ⟨kq, xc⟩ := cfAt hb3 (w.heap.size + 1); have qo := kq 0; have qq := kq 1; have qr := kq 2; clear kq; simp [go_sem, *] at qo qq qr xc)); (try have zk : w.heap.size + 1 < w3.heap.size := by omega); (try (obtain ⟨kq, xd⟩ := cfAt hb3 (w.heap.size + 1 + 1); have qt := kq 0; have qu := kq 1; clear kq; simp [go_sem, *] at qt qu xd)); (try have zm : w.heap.size + 1 + 1 < w3.heap.size := by omega); (try (obtain ⟨kq, xn⟩ := cfAt hb3 (gB); have qv := kq 0; have qw := kq 1; clear kq; simp [go_sem, *] at qv qw xn)); (try have jn : gB < w3.heap.size := by omega); (try clear xg xh zg); (try clear jt); (try clear xi xj xk zh); (try clear ju); (try clear xl xm zi); (try clear jv); (try clear yq yr ww); (try clear wy); (try clear jw jx vn); (try clear vo); (try clear jy jz ya vp); (try clear vq); (try clear yb yc vr); (try clear vt); (try clear yt yu wz); (try clear uc)))
    have qi := (hb3.block (w.heap.size) (blk_lt' qe.out)).trans qe.out
    clear zn zo yx qe
    obtain ⟨zx, zy, vc, ka⟩ := bk2 qi
    replace qi := Lib.hid qi
    have qj := (hb3.block (w.heap.size + 1) (blk_lt' qf.out)).trans qf.out
    clear zp zq zr yz qf
    obtain ⟨ja, jb, jc, vd, kb⟩ := bk3 qj
    replace qj := Lib.hid qj
    have qk := (hb3.block (w.heap.size + 1 + 1) (blk_lt' qg.out)).trans qg.out
    clear zt zu va qg
    obtain ⟨jd, je, vf, kc⟩ := bk2 qk
    replace qk := Lib.hid qk
    have ql := (hb3.block (gB) (blk_lt' qh.out)).trans qh.out
    clear zv zw vb qh
    obtain ⟨jf, jg, vg, kd⟩ := bk2 ql
    replace ql := Lib.hid ql
    have hB3 : Below w.heap.size w w3 := below_via hb3 (by assumption) (by go_size)
    replace qi := qi.out
    replace qj := qj.out
    replace qk := qk.out
    replace ql := ql.out
    refine chk (fun W => Below w.heap.size w W ∧ W.heap[w.heap.size + 1 + 1]? = some (.cells #[.int .i64 0, .int .i64 0] 44 (0, 0)) ∧ W.heap[gB]? = some (.cells #[.int .i64 lo, .int .i64 hi] 44 (0, 0))) (by refine ⟨?_, ?_, ?_⟩ <;> (exact ck)) ?_
    clear zx zy vc qi
    clear ja jb jc vd qj
    clear jd je vf qk
    clear jf jg vg ql
    clear hB3
    rintro w4 ⟨hB4, qc, qd⟩
    obtain ⟨xe, xf, vh, ud⟩ := bk2 qc
    replace qc := Lib.hid qc
    obtain ⟨jh, ji, vi, ue⟩ := bk2 qd
    replace qd := Lib.hid qd
    have hgo : gB ≠ w.heap.size + 1 + 1 := by omega
    clear TH
    go_region_held3 (fun w' => w'.cell? ⟨gB, 0, none⟩ = some (.int .i64 lo) ∧ w'.cell? ⟨gB, 1, none⟩ = some (.int .i64 hi)) (first | go_keep | exact ⟨afar2 (by assumption) (by omega), afar2 (by assumption) (by omega)⟩) (first | (have _t := tok7; go_at_call 38; (with_reducible refine ((TV _)).mono ?_); rintro e w7 ⟨rfl, hb7⟩; clear tok7 _t; have hz7 := hb7.size; (try simp only [sA, sB, sC, sD] at hz7); (try (obtain ⟨kq, yd⟩ := cfAt hb7 (w.heap.size); have xr := kq 0; have xt := kq 1; clear kq; simp [go_sem, *] at xr xt yd)); (try have ut : w.heap.size < w7.heap.size := by omega); (try (obtain ⟨kq, ye⟩ := cfAt hb7 (w.heap.size + 1); have xu := kq 0; have xv := kq 1; have xw := kq 2; clear kq; simp [go_sem, *] at xu xv xw ye)); (try have uw : w.heap.size + 1 < w7.heap.size := by omega); (try (obtain ⟨kq, yf⟩ := cfAt hb7 (w.heap.size + 1 + 1); have qx := kq 0; have qy := kq 1; clear kq; simp [go_sem, *] at qx qy yf)); (try have uy : w.heap.size + 1 + 1 < w7.heap.size := by omega); (try (obtain ⟨kq, vj⟩ := cfAt hb7 (gB); have jj := kq 0; have jk := kq 1; clear kq; simp [go_sem, *] at jj jk vj)); (try have ke : gB < w7.heap.size := by omega); (try clear qm qn qz); (try clear zj); (try clear qo qq qr xc); (try clear zk); (try clear qt qu xd); (try clear zm); (try clear qv qw xn); (try clear jn); (try clear yg yh vu); (try clear vv); (try clear yi yj yk vw); (try clear vy); (try clear yl ym wc); (try clear wd); (try clear yv yw uf); (try clear ug); (try clear xy za yn); (try clear wg); (try clear zb zc zd yo); (try clear wi); (try clear ze zf yp); (try clear wj); (try clear jl jm vk); (try clear uh); (try clear wm wn gc); (try clear ge); (try clear wq ws wt gh); (try clear gk); (try clear wu wv gm); (try clear gn); (try clear ui uj kf); (try clear kh)))
    iterate 24 (first | (with_reducible show bodyPost _ _ _ _ _ _) | (with_reducible refine wp_ret ?_) | go_values | go_skip | go_guarded | go_step | go_upon | go_back | skip)
    refine bodyPost_ret (v := .tuple #[.agg #[.int .i64 lo, .int .i64 hi], .int .i64 k, .bool (validB lo hi)]) (by simp [results, Tryz.results59, go_sem, qx, qy, xe, xf]) rfl ⟨by rw [HLO.out, HHI.out], ck⟩
   | true =>
    have hbN := Lib.hid ((bN_go hlt hs).symm.trans HNk.out)
    have htb := HTB.out (k + 1)
    have TC0 := fun W => common_span_any (bLo C st k) (bHi C st k) (htLo C (k + 1) (st (k + 1))) (htHi C (k + 1) (st (k + 1))) W (by omega) (by omega) (by omega) (by omega)
    have eL : max (bLo C st k) (htLo C (k + 1) (st (k + 1))) = bLo C st (k + 1) := rfl
    have eH : min (bHi C st k) (htHi C (k + 1) (st (k + 1))) = bHi C st (k + 1) := rfl
    have TC := TC0
    rw [eL, eH] at TC
    have TH : ∀ W, Calls Tryz.prog 78 #[.agg #[.int .i64 A, .int .i64 B], .agg #[.int .i64 x, .int .i64 y, .int .i64 e], .int .i64 ((k : Int) + 1)] W fun r w' => r = .returned (.tuple #[.agg #[.int .i64 (htLo C (k + 1) (st (k + 1))), .int .i64 (htHi C (k + 1) (st (k + 1)))], .bool true]) ∧ Below W.heap.size W w' := fun W => by
     have := TH0 W (k + 1) (by omega)
     rw [hs] at this
     exact this
    clear TH0 hs TC0 eL eH htb hbd
    generalize htLo C (k + 1) (st (k + 1)) = lo1 at *
    generalize htHi C (k + 1) (st (k + 1)) = hi1 at *
    generalize hlo : bLo C st k = lo at *
    generalize hhi : bHi C st k = hi at *
    generalize hlo2 : bLo C st (k + 1) = lo2 at *
    generalize hhi2 : bHi C st (k + 1) = hi2 at *
    have HLO := Lib.hid hlo2
    have HHI := Lib.hid hhi2
    clear hlo hhi hlo2 hhi2
    go_upto_region 4 with (fail)
    refine chk (fun W => Below w.heap.size w W ∧ W.heap[w.heap.size]? = some (.cells #[.int .i64 A, .int .i64 B] 32 (0, 0)) ∧ W.heap[w.heap.size + 1]? = some (.cells #[.int .i64 x, .int .i64 y, .int .i64 e] 34 (0, 0)) ∧ W.heap[w.heap.size + 1 + 1]? = some (.cells #[.int .i64 0, .int .i64 0] 44 (0, 0)) ∧ W.heap[gB]? = some (.cells #[.int .i64 lo, .int .i64 hi] 44 (0, 0))) (by refine ⟨?_, ?_, ?_, ?_, ?_⟩ <;> (exact ck)) ?_
    rintro w2 ⟨hB2, qe, qf, qg, qh⟩
    obtain ⟨zn, zo, yx, gr⟩ := bk2 qe
    replace qe := Lib.hid qe
    obtain ⟨zp, zq, zr, yz, gt⟩ := bk3 qf
    replace qf := Lib.hid qf
    obtain ⟨zt, zu, va, gu⟩ := bk2 qg
    replace qg := Lib.hid qg
    obtain ⟨zv, zw, vb, gy⟩ := bk2 qh
    replace qh := Lib.hid qh
    clear hC2 hP hO hX
    go_upto_region 6 with (first | (have _t := tok3; go_at_call 78; (with_reducible refine ((TH _)).mono ?_); rintro e w3 ⟨rfl, hb3⟩; clear tok3 _t; have hz3 := hb3.size; (try simp only [sA, sB, sC, sD] at hz3); (try (obtain ⟨kq, qz⟩ := cfAt hb3 (w.heap.size); have qm := kq 0; have qn := kq 1; clear kq; simp [go_sem, *] at qm qn qz)); (try have zj : w.heap.size < w3.heap.size := by omega); (try (obtain ⟨kq, xc⟩ := cfAt hb3 (w.heap.size + 1); have qo := kq 0; have qq := kq 1; have qr := kq 2; clear kq; simp [go_sem, *] at qo qq qr xc)); (try have zk : w.heap.size + 1 < w3.heap.size := by omega); (try (obtain ⟨kq, xd⟩ := cfAt hb3 (w.heap.size + 1 + 1); have qt := kq 0; have qu := kq 1; clear kq; simp [go_sem, *] at qt qu xd)); (try have zm : w.heap.size + 1 + 1 < w3.heap.size := by omega); (try (obtain ⟨kq, xn⟩ := cfAt hb3 (gB); have qv := kq 0; have qw := kq 1; clear kq; simp [go_sem, *] at qv qw xn)); (try have jn : gB < w3.heap.size := by omega); (try clear xg xh zg); (try clear jt); (try clear xi xj xk zh); (try clear ju); (try clear xl xm zi); (try clear jv); (try clear yq yr ww); (try clear wy); (try clear jw jx vn); (try clear vo); (try clear jy jz ya vp); (try clear vq); (try clear yb yc vr); (try clear vt); (try clear yt yu wz); (try clear uc)))
    have qi := (hb3.block (w.heap.size) (blk_lt' qe.out)).trans qe.out
    clear zn zo yx qe
    obtain ⟨zx, zy, vc, ka⟩ := bk2 qi
    replace qi := Lib.hid qi
    have qj := (hb3.block (w.heap.size + 1) (blk_lt' qf.out)).trans qf.out
    clear zp zq zr yz qf
    obtain ⟨ja, jb, jc, vd, kb⟩ := bk3 qj
    replace qj := Lib.hid qj
    have qk := (hb3.block (w.heap.size + 1 + 1) (blk_lt' qg.out)).trans qg.out
    clear zt zu va qg
    obtain ⟨jd, je, vf, kc⟩ := bk2 qk
    replace qk := Lib.hid qk
    have ql := (hb3.block (gB) (blk_lt' qh.out)).trans qh.out
    clear zv zw vb qh
    obtain ⟨jf, jg, vg, kd⟩ := bk2 ql
    replace ql := Lib.hid ql
    have hB3 : Below w.heap.size w w3 := below_via hb3 (by assumption) (by go_size)
    replace qi := qi.out
    replace qj := qj.out
    replace qk := qk.out
    replace ql := ql.out
    refine chk (fun W => Below w.heap.size w W ∧ W.heap[w.heap.size]? = some (.cells #[.int .i64 A, .int .i64 B] 32 (0, 0)) ∧ W.heap[w.heap.size + 1]? = some (.cells #[.int .i64 x, .int .i64 y, .int .i64 e] 34 (0, 0)) ∧ W.heap[w.heap.size + 1 + 1]? = some (.cells #[.int .i64 0, .int .i64 0] 44 (0, 0)) ∧ W.heap[gB]? = some (.cells #[.int .i64 lo, .int .i64 hi] 44 (0, 0)) ∧ W.heap[w3.heap.size]? = some (.cells #[.int .i64 lo1, .int .i64 hi1] 44 (0, 0))) (by refine ⟨?_, ?_, ?_, ?_, ?_, ?_⟩ <;> (exact ck)) ?_
    clear zx zy vc qi
    clear ja jb jc vd qj
    clear jd je vf qk
    clear jf jg vg ql
    clear hB3
    rintro w4 ⟨hB4, xo, xp, qc, qd, xq⟩
    obtain ⟨uk, ul, ki, pg⟩ := bk2 xo
    replace xo := Lib.hid xo
    obtain ⟨um, un, uo, kj, ph⟩ := bk3 xp
    replace xp := Lib.hid xp
    obtain ⟨xe, xf, vh, ud⟩ := bk2 qc
    replace qc := Lib.hid qc
    obtain ⟨jh, ji, vi, ue⟩ := bk2 qd
    replace qd := Lib.hid qd
    obtain ⟨uq, ur, kl, pi⟩ := bk2 xq
    replace xq := Lib.hid xq
    go_upto_region 7 with (first | (have _t := tok5; go_at_call 79; (with_reducible refine ((TC _)).mono ?_); rintro e w5 ⟨rfl, hb5⟩; clear tok5 _t; have hz5 := hb5.size; (try simp only [sA, sB, sC, sD] at hz5); (try (obtain ⟨kq, yn⟩ := cfAt hb5 (w.heap.size); have xy := kq 0; have za := kq 1; clear kq; simp [go_sem, *] at xy za yn)); (try have wg : w.heap.size < w5.heap.size := by omega); (try (obtain ⟨kq, yo⟩ := cfAt hb5 (w.heap.size + 1); have zb := kq 0; have zc := kq 1; have zd := kq 2; clear kq; simp [go_sem, *] at zb zc zd yo)); (try have wi : w.heap.size + 1 < w5.heap.size := by omega); (try (obtain ⟨kq, yp⟩ := cfAt hb5 (w.heap.size + 1 + 1); have ze := kq 0; have zf := kq 1; clear kq; simp [go_sem, *] at ze zf yp)); (try have wj : w.heap.size + 1 + 1 < w5.heap.size := by omega); (try (obtain ⟨kq, vk⟩ := cfAt hb5 (gB); have jl := kq 0; have jm := kq 1; clear kq; simp [go_sem, *] at jl jm vk)); (try have uh : gB < w5.heap.size := by omega); (try (obtain ⟨kq, us⟩ := cfAt hb5 (w3.heap.size); have wk := kq 0; have wl := kq 1; clear kq; simp [go_sem, *] at wk wl us)); (try have ko : w3.heap.size < w5.heap.size := by omega); (try clear xg xh zg); (try clear jt); (try clear xi xj xk zh); (try clear ju); (try clear xl xm zi); (try clear jv); (try clear yq yr ww); (try clear wy); (try clear jw jx vn); (try clear vo); (try clear jy jz ya vp); (try clear vq); (try clear yb yc vr); (try clear vt); (try clear yt yu wz); (try clear uc); (try clear qm qn qz); (try clear zj); (try clear qo qq qr xc); (try clear zk); (try clear qt qu xd); (try clear zm); (try clear qv qw xn); (try clear jn); (try clear yg yh vu); (try clear vv); (try clear yi yj yk vw); (try clear vy); (try clear yl ym wc); (try clear wd); (try clear yv yw uf); (try clear ug); (try clear km kn kp); (try clear kr)))
    have jo := (hb5.block (w.heap.size) (blk_lt' xo.out)).trans xo.out
    clear uk ul ki xo
    obtain ⟨ks, kt, pj, pk⟩ := bk2 jo
    replace jo := Lib.hid jo
    have jp := (hb5.block (w.heap.size + 1) (blk_lt' xp.out)).trans xp.out
    clear um un uo kj xp
    obtain ⟨ku, kw, kx, pm, pn⟩ := bk3 jp
    replace jp := Lib.hid jp
    have jq := (hb5.block (w.heap.size + 1 + 1) (blk_lt' qc.out)).trans qc.out
    clear xe xf vh qc
    obtain ⟨ky, kz, po, pp⟩ := bk2 jq
    replace jq := Lib.hid jq
    have jr := (hb5.block (gB) (blk_lt' qd.out)).trans qd.out
    clear jh ji vi qd
    obtain ⟨pc, pd, pq, pr⟩ := bk2 jr
    replace jr := Lib.hid jr
    have vm := (hb5.block (w3.heap.size) (blk_lt' xq.out)).trans xq.out
    clear uq ur kl xq
    obtain ⟨pe, pf, pt, pu⟩ := bk2 vm
    replace vm := Lib.hid vm
    have hB5 : Below w.heap.size w w5 := below_via hb5 (by assumption) (by go_size)
    have hgo : gB ≠ w.heap.size ∧ gB ≠ w.heap.size + 1 ∧ gB ≠ w.heap.size + 1 + 1 := by omega
    clear TH TC
    go_wp2_with fail
    go_roundw
    case rel =>
     have q1 := jo.out
     have q2 := jp.out
     have q3 := jq.out
     have q4 := jr.out
     obtain ⟨g1, g2, g3⟩ := hgo
     exact ⟨k + 1, by go_num, by omega, hbN.out, ck, ck, ck, by rw [HLO.out, HHI.out]; (exact ck), ck⟩
    case measure => simp [intOf]; omega
  ·obtain rfl : k = 5 := by omega
   obtain rfl : 5 = N := (bN_end (st := st) (n := 5) (by omega)).symm.trans HNk.out
   have TV := fun W => valid_any (bLo C st 5) (bHi C st 5) W
   generalize hlo : bLo C st 5 = lo at *
   generalize hhi : bHi C st 5 = hi at *
   have HLO := Lib.hid hlo
   have HHI := Lib.hid hhi
   clear hlo hhi
   go_upto_region 8 with (fail)
   refine chk (fun W => Below w.heap.size w W ∧ W.heap[w.heap.size + 1 + 1]? = some (.cells #[.int .i64 0, .int .i64 0] 44 (0, 0)) ∧ W.heap[gB]? = some (.cells #[.int .i64 lo, .int .i64 hi] 44 (0, 0))) (by refine ⟨?_, ?_, ?_⟩ <;> (exact ck)) ?_
   rintro w4 ⟨hB4, qc, qd⟩
   obtain ⟨xe, xf, vh, ud⟩ := bk2 qc
   replace qc := Lib.hid qc
   obtain ⟨jh, ji, vi, ue⟩ := bk2 qd
   replace qd := Lib.hid qd
   have hgo : gB ≠ w.heap.size + 1 + 1 := by omega
   clear hC2 hP hO hX
   go_region_held3 (fun w' => w'.cell? ⟨gB, 0, none⟩ = some (.int .i64 lo) ∧ w'.cell? ⟨gB, 1, none⟩ = some (.int .i64 hi)) (first | go_keep | exact ⟨afar2 (by assumption) (by omega), afar2 (by assumption) (by omega)⟩) (first | (have _t := tok7; go_at_call 38; (with_reducible refine ((TV _)).mono ?_); rintro e w7 ⟨rfl, hb7⟩; clear tok7 _t; have hz7 := hb7.size; (try simp only [sA, sB, sC, sD] at hz7); (try (obtain ⟨kq, yd⟩ := cfAt hb7 (w.heap.size); have xr := kq 0; have xt := kq 1; clear kq; simp [go_sem, *] at xr xt yd)); (try have ut : w.heap.size < w7.heap.size := by omega); (try (obtain ⟨kq, ye⟩ := cfAt hb7 (w.heap.size + 1); have xu := kq 0; have xv := kq 1; have xw := kq 2; clear kq; simp [go_sem, *] at xu xv xw ye)); (try have uw : w.heap.size + 1 < w7.heap.size := by omega); (try (obtain ⟨kq, yf⟩ := cfAt hb7 (w.heap.size + 1 + 1); have qx := kq 0; have qy := kq 1; clear kq; simp [go_sem, *] at qx qy yf)); (try have uy : w.heap.size + 1 + 1 < w7.heap.size := by omega); (try (obtain ⟨kq, vj⟩ := cfAt hb7 (gB); have jj := kq 0; have jk := kq 1; clear kq; simp [go_sem, *] at jj jk vj)); (try have ke : gB < w7.heap.size := by omega); (try clear qm qn qz); (try clear zj); (try clear qo qq qr xc); (try clear zk); (try clear qt qu xd); (try clear zm); (try clear qv qw xn); (try clear jn); (try clear yg yh vu); (try clear vv); (try clear yi yj yk vw); (try clear vy); (try clear yl ym wc); (try clear wd); (try clear yv yw uf); (try clear ug); (try clear xy za yn); (try clear wg); (try clear zb zc zd yo); (try clear wi); (try clear ze zf yp); (try clear wj); (try clear jl jm vk); (try clear uh); (try clear wm wn gc); (try clear ge); (try clear wq ws wt gh); (try clear gk); (try clear wu wv gm); (try clear gn); (try clear ui uj kf); (try clear kh)))
   iterate 24 (first | (with_reducible show bodyPost _ _ _ _ _ _) | (with_reducible refine wp_ret ?_) | go_values | go_skip | go_guarded | go_step | go_upon | go_back | skip)
   refine bodyPost_ret (v := .tuple #[.agg #[.int .i64 lo, .int .i64 hi], .int .i64 5, .bool (validB lo hi)]) (by simp [results, Tryz.results59, go_sem, qx, qy, xe, xf]) rfl ⟨by rw [HLO.out, HHI.out]; rfl, ck⟩
end Go.Proofs.YtnkmgpmehkholaaGreat
