/- Lemmas and contracts of functions. No condition. -/
import Derived.Test.YtnkmgpmehkholaaGreatPk43
import Derived.Test.YtnkmgpmehkholaaGreatPk44
namespace Go.Proofs.YtnkmgpmehkholaaGreat
open Go.RowKit
set_option linter.unusedVariables false
set_option maxHeartbeats 1000000
set_option maxRecDepth 20000
set_option linter.unusedSimpArgs false
attribute [local go_sem] openAt openUpon
def BiRel (w : World) (A B x y e C : Int) (st : Nat → RSt) (gB N : Nat) (nv : Value) (wr : World) : Prop := ∃ k : Nat, nv = .int .i64 k ∧ k ≤ 5 ∧ bN st (5 - k) k = N ∧ wr.heap[w.heap.size]? = some (.cells #[.int .i64 A, .int .i64 B] 32 (0, 0)) ∧ wr.heap[w.heap.size + 1]? = some (.cells #[.int .i64 x, .int .i64 y, .int .i64 e] 34 (0, 0)) ∧
 wr.heap[w.heap.size + 1 + 1]? = some (.cells #[.int .i64 0, .int .i64 0] 44 (0, 0)) ∧ wr.heap[gB]? = some (.cells #[.int .i64 (bLo C st k), .int .i64 (bHi C st k)] 44 (0, 0)) ∧ Below w.heap.size w wr
theorem bestHeight_any (A B x y e : Int) (w : World) (hA : -1000 ≤ A ∧ A ≤ 1000) (hBB : -10000 ≤ B ∧ B ≤ 10000) (hcv : coV A B ≠ 0) (hx : -10000 ≤ x ∧ x ≤ 10000) (he : 0 ≤ e ∧ e ≤ 20) :
  Calls Tryz.prog 59 #[.agg #[.int .i64 A, .int .i64 B], .agg #[.int .i64 x, .int .i64 y, .int .i64 e]] w fun r w' => r = .returned (.tuple #[.agg #[.int .i64 (bLo (dcV A B) (ptSt A B x e) (bestN (ptSt A B x e))), .int .i64 (bHi (dcV A B) (ptSt A B x e) (bestN (ptSt A B x e)))], .int .i64 (bestN (ptSt A B x e)), .bool (beOk (dcV A B) (ptSt A B x e))]) ∧ Below w.heap.size w w' := by
 have hC := dc_bd hA hBB
 have hok := fun k => ptSt_ok (A := A) (B := B) hx he k
 have TK := fun (W : World) (k : Nat) (hk : k ≤ 5) => heightAt_any A B x y e k W hA hBB hcv hx he hk
 have h00 := ptSt_ok0 (A := A) (B := B) (x := x) (e := e)
 generalize hst : ptSt A B x e = st at *
 generalize dcV A B = C at *
 clear hst
 have T0 : ∀ W, Calls Tryz.prog 78 #[.agg #[.int .i64 A, .int .i64 B], .agg #[.int .i64 x, .int .i64 y, .int .i64 e], .int .i64 0] W fun r w' => r = .returned (.tuple #[.agg #[.int .i64 (bLo C st 0), .int .i64 (bHi C st 0)], .bool true]) ∧ Below W.heap.size W w' := fun W => by
  have := TK W 0 (by omega)
  rw [h00] at this
  exact this
 obtain ⟨N, hN⟩ : ∃ N, bestN st = N := ⟨_, rfl⟩
 have hbo : beOk C st = validB (bLo C st N) (bHi C st N) := by rw [beOk, hN]
 rw [hN, hbo]
 have HBD := Lib.hid (fun k => b_bd hC hok k)
 have HTB := Lib.hid (fun k => ht_bd (n := k) hC (hok k))
 have TKH := Lib.hid TK
 have HN := Lib.hid hN
 clear hok TK h00 hN hbo
 have tok1 := trivial
 have tok2 := trivial
 have tok3 := trivial
 have tok4 := trivial
 have tok5 := trivial
 have tok6 := trivial
 have tok7 := trivial
 have tok8 := trivial
 go_enter Tryz.func59, Tryz.ntmps59
 go_wp2_with (first | (have _t := tok1; go_at_call 78; (with_reducible refine ((T0 _)).mono ?_); rintro e w1 ⟨rfl, hb1⟩; clear tok1 _t; have hz1 := hb1.size; (try simp only [sA, sB, sC, sD] at hz1); (try (obtain ⟨kq, zc⟩ := cfAt hb1 (w.heap.size); have xc := kq 0; have xd := kq 1; clear kq; simp [go_sem, *] at xc xd zc)); (try have jo : w.heap.size < w1.heap.size := by omega); (try (obtain ⟨kq, zd⟩ := cfAt hb1 (w.heap.size + 1); have xe := kq 0; have xf := kq 1; have xg := kq 2; clear kq; simp [go_sem, *] at xe xf xg zd)); (try have jp : w.heap.size + 1 < w1.heap.size := by omega); (try (obtain ⟨kq, ze⟩ := cfAt hb1 (w.heap.size + 1 + 1); have xh := kq 0; have xi := kq 1; clear kq; simp [go_sem, *] at xh xi ze)); (try have jq : w.heap.size + 1 + 1 < w1.heap.size := by omega)))
 have hz1' := hb1.size
 simp only [World.size_alloc] at hz1'
 have HC1 : w1.heap[w.heap.size]? = some (.cells #[.int .i64 A, .int .i64 B] 32 (0, 0)) := (hb1.block _ (by go_size)).trans ck
 have HP1 : w1.heap[w.heap.size + 1]? = some (.cells #[.int .i64 x, .int .i64 y, .int .i64 e] 34 (0, 0)) := (hb1.block _ (by go_size)).trans ck
 have HO1 : w1.heap[w.heap.size + 1 + 1]? = some (.cells #[.int .i64 0, .int .i64 0] 44 (0, 0)) := (hb1.block _ (by go_size)).trans ck
 have HB1 : Below w.heap.size w w1 := by exact bel
 generalize hgB : w1.heap.size = gB at *
 have HGB := Lib.hid hgB
 go_loopw [9] (fun nv wr => BiRel w A B x y e C st gB N nv wr) (fun nv _ => (5 - intOf nv).toNat)
 case atStart => exact ⟨0, rfl, by omega, HN.out, ck, ck, ck, bx_new HGB.out, HB1.alloc (by rw [HGB.out]; omega) _⟩
 case round =>
  clear HC1 HP1 HO1 HB1 hb1
  obtain ⟨k, rfl, hk, hN, hC2, hP, hO, hX, hbw⟩ := hrel
  have hkc : (k : Int) ≤ 5 := by omega
  have HNk := Lib.hid hN
  have hbd := HBD.out k
  clear hN
  by_cases hlt : k < 5
  ·have hlc : (k : Int) < 5 := by omega
   have TH0 := TKH.out
   cases hs : htOk (st (k + 1)) with
   | false =>
    have hbN := Lib.hid ((bN_stop hs).symm.trans HNk.out)
    obtain ⟨lo1, hlo⟩ : ∃ v, htLo C (k + 1) (st (k + 1)) = v := ⟨_, rfl⟩
    obtain ⟨hi1, hhi⟩ : ∃ v, htHi C (k + 1) (st (k + 1)) = v := ⟨_, rfl⟩
    have TH : ∀ W, Calls Tryz.prog 78 #[.agg #[.int .i64 A, .int .i64 B], .agg #[.int .i64 x, .int .i64 y, .int .i64 e], .int .i64 ((k : Int) + 1)] W fun r w' => r = .returned (.tuple #[.agg #[.int .i64 lo1, .int .i64 hi1], .bool false]) ∧ Below W.heap.size W w' := fun W => by
     have := TH0 W (k + 1) (by omega)
     rw [hs, hlo, hhi] at this
     exact this
    clear TH0 hs hlo hhi
    obtain rfl : k = N := hbN.out
    have TV := fun W => valid_any (bLo C st k) (bHi C st k) W
    generalize hlo : bLo C st k = lo at *
    generalize hhi : bHi C st k = hi at *
    have HLO := Lib.hid hlo
    have HHI := Lib.hid hhi
    clear hlo hhi
    go_upto_region 4 with (fail)
    refine chk (fun W => Below w.heap.size w W ∧ W.heap[w.heap.size]? = some (.cells #[.int .i64 A, .int .i64 B] 32 (0, 0)) ∧ W.heap[w.heap.size + 1]? = some (.cells #[.int .i64 x, .int .i64 y, .int .i64 e] 34 (0, 0)) ∧ W.heap[w.heap.size + 1 + 1]? = some (.cells #[.int .i64 0, .int .i64 0] 44 (0, 0)) ∧ W.heap[gB]? = some (.cells #[.int .i64 lo, .int .i64 hi] 44 (0, 0))) (by refine ⟨?_, ?_, ?_, ?_, ?_⟩ <;> (exact ck)) ?_
    rintro w2 ⟨hB2, qc, qd, qe, qf⟩
    obtain ⟨zi, zj, yt, uy⟩ := bk2 qc
    replace qc := Lib.hid qc
    obtain ⟨zk, zm, zn, yu, ga⟩ := bk3 qd
    replace qd := Lib.hid qd
    obtain ⟨zo, zp, yv, gb⟩ := bk2 qe
    replace qe := Lib.hid qe
    obtain ⟨zq, zr, yw, gc⟩ := bk2 qf
    replace qf := Lib.hid qf
    clear hC2 hP hO hX
    go_upto_region 8 with (first | (have _t := tok3; go_at_call 78; (with_reducible refine ((TH _)).mono ?_); rintro e w3 ⟨rfl, hb3⟩; clear tok3 _t; have hz3 := hb3.size; (try simp only [sA, sB, sC, sD] at hz3); (try (obtain ⟨kq, qx⟩ := cfAt hb3 (w.heap.size); have qk := kq 0; have ql := kq 1; clear kq; simp [go_sem, *] at qk ql qx)); (try have zf : w.heap.size < w3.heap.size := by omega); (try (obtain ⟨kq, qy⟩ := cfAt hb3 (w.heap.size + 1); have qm := kq 0; have qn := kq 1; have qo := kq 2; clear kq; simp [go_sem, *] at qm qn qo qy)); (try have zg : w.heap.size + 1 < w3.heap.size := by omega); (try (obtain ⟨kq, qz⟩ := cfAt hb3 (w.heap.size + 1 + 1); have qq := kq 0; have qr := kq 1; clear kq; simp [go_sem, *] at qq qr qz)); (try have zh : w.heap.size + 1 + 1 < w3.heap.size := by omega); (try (obtain ⟨kq, xj⟩ := cfAt hb3 (gB); have qt := kq 0; have qu := kq 1; clear kq; simp [go_sem, *] at qt qu xj)); (try have jj : gB < w3.heap.size := by omega); (try clear xc xd zc); (try clear jo); (try clear xe xf xg zd); (try clear jp); (try clear xh xi ze); (try clear jq); (try clear ym yn ws); (try clear wt); (try clear jr jt vi); (try clear vj); (try clear ju jv jw vk); (try clear vm); (try clear jx jy vn); (try clear vo); (try clear yo yp wu); (try clear wv)))
    have qg := (hb3.block (w.heap.size) (blk_lt' qc.out)).trans qc.out
    clear zi zj yt qc
    obtain ⟨zt, zu, yx, gd⟩ := bk2 qg
    replace qg := Lib.hid qg
    have qh := (hb3.block (w.heap.size + 1) (blk_lt' qd.out)).trans qd.out
    clear zk zm zn yu qd
    obtain ⟨zv, zw, zx, yz, ge⟩ := bk3 qh
    replace qh := Lib.hid qh
    have qi := (hb3.block (w.heap.size + 1 + 1) (blk_lt' qe.out)).trans qe.out
    clear zo zp yv qe
    obtain ⟨zy, ja, va, gf⟩ := bk2 qi
    replace qi := Lib.hid qi
    have qj := (hb3.block (gB) (blk_lt' qf.out)).trans qf.out
    clear zq zr yw qf
    obtain ⟨jb, jc, vb, gg⟩ := bk2 qj
    replace qj := Lib.hid qj
    have hB3 : Below w.heap.size w w3 := below_via hb3 (by assumption) (by go_size)
    replace qg := qg.out
    replace qh := qh.out
    replace qi := qi.out
    replace qj := qj.out
    refine chk (fun W => Below w.heap.size w W ∧ W.heap[w.heap.size + 1 + 1]? = some (.cells #[.int .i64 0, .int .i64 0] 44 (0, 0)) ∧ W.heap[gB]? = some (.cells #[.int .i64 lo, .int .i64 hi] 44 (0, 0))) (by refine ⟨?_, ?_, ?_⟩ <;> (exact ck)) ?_
    clear zt zu yx qg
    clear zv zw zx yz qh
    clear zy ja va qi
    clear jb jc vb qj
    clear hB3
    rintro w4 ⟨hB4, qa, qb⟩
    obtain ⟨xa, xb, vc, ww⟩ := bk2 qa
    replace qa := Lib.hid qa
    obtain ⟨jd, je, vd, wx⟩ := bk2 qb
    replace qb := Lib.hid qb
    have hgo : gB ≠ w.heap.size + 1 + 1 := by omega
    clear TH
    go_region_held3 (fun w' => w'.cell? ⟨gB, 0, none⟩ = some (.int .i64 lo) ∧ w'.cell? ⟨gB, 1, none⟩ = some (.int .i64 hi)) (first | go_keep | exact ⟨afar2 (by assumption) (by omega), afar2 (by assumption) (by omega)⟩) (first | (have _t := tok7; go_at_call 38; (with_reducible refine ((TV _)).mono ?_); rintro e w7 ⟨rfl, hb7⟩; clear tok7 _t; have hz7 := hb7.size; (try simp only [sA, sB, sC, sD] at hz7); (try (obtain ⟨kq, jz⟩ := cfAt hb7 (w.heap.size); have xn := kq 0; have xo := kq 1; clear kq; simp [go_sem, *] at xn xo jz)); (try have ul : w.heap.size < w7.heap.size := by omega); (try (obtain ⟨kq, ya⟩ := cfAt hb7 (w.heap.size + 1); have xp := kq 0; have xq := kq 1; have xr := kq 2; clear kq; simp [go_sem, *] at xp xq xr ya)); (try have um : w.heap.size + 1 < w7.heap.size := by omega); (try (obtain ⟨kq, yb⟩ := cfAt hb7 (w.heap.size + 1 + 1); have qv := kq 0; have qw := kq 1; clear kq; simp [go_sem, *] at qv qw yb)); (try have un : w.heap.size + 1 + 1 < w7.heap.size := by omega); (try (obtain ⟨kq, vf⟩ := cfAt hb7 (gB); have jf := kq 0; have jg := kq 1; clear kq; simp [go_sem, *] at jf jg vf)); (try have gh : gB < w7.heap.size := by omega); (try clear qk ql qx); (try clear zf); (try clear qm qn qo qy); (try clear zg); (try clear qq qr qz); (try clear zh); (try clear qt qu xj); (try clear jj); (try clear yc yd vp); (try clear vq); (try clear ye yf yg vr); (try clear vt); (try clear yh yi vu); (try clear vv); (try clear yq yr wy); (try clear wz); (try clear xt xu yj); (try clear vw); (try clear xv xw xy yk); (try clear vy); (try clear za zb yl); (try clear wc); (try clear jh ji vg); (try clear ua); (try clear wi wj uo); (try clear uq); (try clear wk wl wm ur); (try clear us); (try clear wn wq ut); (try clear uw); (try clear ub uc gi); (try clear gj)))
    iterate 24 (first | (with_reducible show bodyPost _ _ _ _ _ _) | (with_reducible refine wp_ret ?_) | go_values | go_skip | go_guarded | go_step | go_upon | go_back | skip)
    refine bodyPost_ret (v := .tuple #[.agg #[.int .i64 lo, .int .i64 hi], .int .i64 k, .bool (validB lo hi)]) (by simp [results, Tryz.results59, go_sem, qv, qw, xa, xb]) rfl ⟨by rw [HLO.out, HHI.out], ck⟩
   | true =>
    have hbN := Lib.hid ((bN_go hlt hs).symm.trans HNk.out)
    have htb := HTB.out (k + 1)
    have TC0 := fun W => common_span_any (bLo C st k) (bHi C st k) (htLo C (k + 1) (st (k + 1))) (htHi C (k + 1) (st (k + 1))) W (by omega) (by omega) (by omega) (by omega)
    have eL : max (bLo C st k) (htLo C (k + 1) (st (k + 1))) = bLo C st (k + 1) := rfl
    have eH : min (bHi C st k) (htHi C (k + 1) (st (k + 1))) = bHi C st (k + 1) := rfl
    have TC := TC0
    rw [eL, eH] at TC
    have TH : ∀ W, Calls Tryz.prog 78 #[.agg #[.int .i64 A, .int .i64 B], .agg #[.int .i64 x, .int .i64 y, .int .i64 e], .int .i64 ((k : Int) + 1)] W fun r w' => r = .returned (.tuple #[.agg #[.int .i64 (htLo C (k + 1) (st (k + 1))), .int .i64 (htHi C (k + 1) (st (k + 1)))], .bool true]) ∧ Below W.heap.size W w' := fun W => by
     have := TH0 W (k + 1) (by omega)
     rw [hs] at this
     exact this
    clear TH0 hs TC0 eL eH htb hbd
    generalize htLo C (k + 1) (st (k + 1)) = lo1 at *
    generalize htHi C (k + 1) (st (k + 1)) = hi1 at *
    generalize hlo : bLo C st k = lo at *
    generalize hhi : bHi C st k = hi at *
    generalize hlo2 : bLo C st (k + 1) = lo2 at *
    generalize hhi2 : bHi C st (k + 1) = hi2 at *
    have HLO := Lib.hid hlo2
    have HHI := Lib.hid hhi2
    clear hlo hhi hlo2 hhi2
    go_upto_region 4 with (fail)
    refine chk (fun W => Below w.heap.size w W ∧ W.heap[w.heap.size]? = some (.cells #[.int .i64 A, .int .i64 B] 32 (0, 0)) ∧ W.heap[w.heap.size + 1]? = some (.cells #[.int .i64 x, .int .i64 y, .int .i64 e] 34 (0, 0)) ∧ W.heap[w.heap.size + 1 + 1]? = some (.cells #[.int .i64 0, .int .i64 0] 44 (0, 0)) ∧ W.heap[gB]? = some (.cells #[.int .i64 lo, .int .i64 hi] 44 (0, 0))) (by refine ⟨?_, ?_, ?_, ?_, ?_⟩ <;> (exact ck)) ?_
    rintro w2 ⟨hB2, qc, qd, qe, qf⟩
    obtain ⟨zi, zj, yt, uy⟩ := bk2 qc
    replace qc := Lib.hid qc
    obtain ⟨zk, zm, zn, yu, ga⟩ := bk3 qd
    replace qd := Lib.hid qd
    obtain ⟨zo, zp, yv, gb⟩ := bk2 qe
    replace qe := Lib.hid qe
    obtain ⟨zq, zr, yw, gc⟩ := bk2 qf
    replace qf := Lib.hid qf
    clear hC2 hP hO hX
    go_upto_region 6 with (first | (have _t := tok3; go_at_call 78; (with_reducible refine ((TH _)).mono ?_); rintro e w3 ⟨rfl, hb3⟩; clear tok3 _t; have hz3 := hb3.size; (try simp only [sA, sB, sC, sD] at hz3); (try (obtain ⟨kq, qx⟩ := cfAt hb3 (w.heap.size); have qk := kq 0; have ql := kq 1; clear kq; simp [go_sem, *] at qk ql qx)); (try have zf : w.heap.size < w3.heap.size := by omega); (try (obtain ⟨kq, qy⟩ := cfAt hb3 (w.heap.size + 1); have qm := kq 0; have qn := kq 1; have qo := kq 2; clear kq; simp [go_sem, *] at qm qn qo qy)); (try have zg : w.heap.size + 1 < w3.heap.size := by omega); (try (obtain ⟨kq, qz⟩ := cfAt hb3 (w.heap.size + 1 + 1); have qq := kq 0; have qr := kq 1; clear kq; simp [go_sem, *] at qq qr qz)); (try have zh : w.heap.size + 1 + 1 < w3.heap.size := by omega); (try (obtain ⟨kq, xj⟩ := cfAt hb3 (gB); have qt := kq 0; have qu := kq 1; clear kq; simp [go_sem, *] at qt qu xj)); (try have jj : gB < w3.heap.size := by omega); (try clear xc xd zc); (try clear jo); (try clear xe xf xg zd); (try clear jp); (try clear xh xi ze); (try clear jq); (try clear ym yn ws); (try clear wt); (try clear jr jt vi); (try clear vj); (try clear ju jv jw vk); (try clear vm); (try clear jx jy vn); (try clear vo); (try clear yo yp wu); (try clear wv)))
    have qg := (hb3.block (w.heap.size) (blk_lt' qc.out)).trans qc.out
    clear zi zj yt qc
    obtain ⟨zt, zu, yx, gd⟩ := bk2 qg
    replace qg := Lib.hid qg
    have qh := (hb3.block (w.heap.size + 1) (blk_lt' qd.out)).trans qd.out
    clear zk zm zn yu qd
    obtain ⟨zv, zw, zx, yz, ge⟩ := bk3 qh
    replace qh := Lib.hid qh
    have qi := (hb3.block (w.heap.size + 1 + 1) (blk_lt' qe.out)).trans qe.out
    clear zo zp yv qe
    obtain ⟨zy, ja, va, gf⟩ := bk2 qi
    replace qi := Lib.hid qi
    have qj := (hb3.block (gB) (blk_lt' qf.out)).trans qf.out
    clear zq zr yw qf
    obtain ⟨jb, jc, vb, gg⟩ := bk2 qj
    replace qj := Lib.hid qj
    have hB3 : Below w.heap.size w w3 := below_via hb3 (by assumption) (by go_size)
    replace qg := qg.out
    replace qh := qh.out
    replace qi := qi.out
    replace qj := qj.out
    refine chk (fun W => Below w.heap.size w W ∧ W.heap[w.heap.size]? = some (.cells #[.int .i64 A, .int .i64 B] 32 (0, 0)) ∧ W.heap[w.heap.size + 1]? = some (.cells #[.int .i64 x, .int .i64 y, .int .i64 e] 34 (0, 0)) ∧ W.heap[w.heap.size + 1 + 1]? = some (.cells #[.int .i64 0, .int .i64 0] 44 (0, 0)) ∧ W.heap[gB]? = some (.cells #[.int .i64 lo, .int .i64 hi] 44 (0, 0)) ∧ W.heap[w3.heap.size]? = some (.cells #[.int .i64 lo1, .int .i64 hi1] 44 (0, 0))) (by refine ⟨?_, ?_, ?_, ?_, ?_, ?_⟩ <;> (exact ck)) ?_
    clear zt zu yx qg
    clear zv zw zx yz qh
    clear zy ja va qi
    clear jb jc vb qj
    clear hB3
    rintro w4 ⟨hB4, xk, xl, qa, qb, xm⟩
    obtain ⟨ud, ue, gk, km⟩ := bk2 xk
    replace xk := Lib.hid xk
    obtain ⟨uf, ug, uh, gl, kn⟩ := bk3 xl
    replace xl := Lib.hid xl
    obtain ⟨xa, xb, vc, ww⟩ := bk2 qa
    replace qa := Lib.hid qa
    obtain ⟨jd, je, vd, wx⟩ := bk2 qb
    replace qb := Lib.hid qb
    obtain ⟨ui, uj, gm, ko⟩ := bk2 xm
    replace xm := Lib.hid xm
    go_upto_region 7 with (first | (have _t := tok5; go_at_call 79; (with_reducible refine ((TC _)).mono ?_); rintro e w5 ⟨rfl, hb5⟩; clear tok5 _t; have hz5 := hb5.size; (try simp only [sA, sB, sC, sD] at hz5); (try (obtain ⟨kq, yj⟩ := cfAt hb5 (w.heap.size); have xt := kq 0; have xu := kq 1; clear kq; simp [go_sem, *] at xt xu yj)); (try have vw : w.heap.size < w5.heap.size := by omega); (try (obtain ⟨kq, yk⟩ := cfAt hb5 (w.heap.size + 1); have xv := kq 0; have xw := kq 1; have xy := kq 2; clear kq; simp [go_sem, *] at xv xw xy yk)); (try have vy : w.heap.size + 1 < w5.heap.size := by omega); (try (obtain ⟨kq, yl⟩ := cfAt hb5 (w.heap.size + 1 + 1); have za := kq 0; have zb := kq 1; clear kq; simp [go_sem, *] at za zb yl)); (try have wc : w.heap.size + 1 + 1 < w5.heap.size := by omega); (try (obtain ⟨kq, vg⟩ := cfAt hb5 (gB); have jh := kq 0; have ji := kq 1; clear kq; simp [go_sem, *] at jh ji vg)); (try have ua : gB < w5.heap.size := by omega); (try (obtain ⟨kq, uk⟩ := cfAt hb5 (w3.heap.size); have wd := kq 0; have wg := kq 1; clear kq; simp [go_sem, *] at wd wg uk)); (try have gt : w3.heap.size < w5.heap.size := by omega); (try clear xc xd zc); (try clear jo); (try clear xe xf xg zd); (try clear jp); (try clear xh xi ze); (try clear jq); (try clear ym yn ws); (try clear wt); (try clear jr jt vi); (try clear vj); (try clear ju jv jw vk); (try clear vm); (try clear jx jy vn); (try clear vo); (try clear yo yp wu); (try clear wv); (try clear qk ql qx); (try clear zf); (try clear qm qn qo qy); (try clear zg); (try clear qq qr qz); (try clear zh); (try clear qt qu xj); (try clear jj); (try clear yc yd vp); (try clear vq); (try clear ye yf yg vr); (try clear vt); (try clear yh yi vu); (try clear vv); (try clear yq yr wy); (try clear wz); (try clear gn gr gu); (try clear gv)))
    have jk := (hb5.block (w.heap.size) (blk_lt' xk.out)).trans xk.out
    clear ud ue gk xk
    obtain ⟨gy, ka, kp, kr⟩ := bk2 jk
    replace jk := Lib.hid jk
    have jl := (hb5.block (w.heap.size + 1) (blk_lt' xl.out)).trans xl.out
    clear uf ug uh gl xl
    obtain ⟨kb, kc, kd, ks, kt⟩ := bk3 jl
    replace jl := Lib.hid jl
    have jm := (hb5.block (w.heap.size + 1 + 1) (blk_lt' qa.out)).trans qa.out
    clear xa xb vc qa
    obtain ⟨ke, kf, ku, kw⟩ := bk2 jm
    replace jm := Lib.hid jm
    have jn := (hb5.block (gB) (blk_lt' qb.out)).trans qb.out
    clear jd je vd qb
    obtain ⟨kh, ki, kx, ky⟩ := bk2 jn
    replace jn := Lib.hid jn
    have vh := (hb5.block (w3.heap.size) (blk_lt' xm.out)).trans xm.out
    clear ui uj gm xm
    obtain ⟨kj, kl, kz, pa⟩ := bk2 vh
    replace vh := Lib.hid vh
    have hB5 : Below w.heap.size w w5 := below_via hb5 (by assumption) (by go_size)
    have hgo : gB ≠ w.heap.size ∧ gB ≠ w.heap.size + 1 ∧ gB ≠ w.heap.size + 1 + 1 := by omega
    clear TH TC
    go_wp2_with fail
    go_roundw
    case rel =>
     have q1 := jk.out
     have q2 := jl.out
     have q3 := jm.out
     have q4 := jn.out
     obtain ⟨g1, g2, g3⟩ := hgo
     exact ⟨k + 1, by go_num, by omega, hbN.out, ck, ck, ck, by rw [HLO.out, HHI.out]; (exact ck), ck⟩
    case measure => simp [intOf]; omega
  ·obtain rfl : k = 5 := by omega
   obtain rfl : 5 = N := (bN_end (st := st) (n := 5) (by omega)).symm.trans HNk.out
   have TV := fun W => valid_any (bLo C st 5) (bHi C st 5) W
   generalize hlo : bLo C st 5 = lo at *
   generalize hhi : bHi C st 5 = hi at *
   have HLO := Lib.hid hlo
   have HHI := Lib.hid hhi
   clear hlo hhi
   go_upto_region 8 with (fail)
   refine chk (fun W => Below w.heap.size w W ∧ W.heap[w.heap.size + 1 + 1]? = some (.cells #[.int .i64 0, .int .i64 0] 44 (0, 0)) ∧ W.heap[gB]? = some (.cells #[.int .i64 lo, .int .i64 hi] 44 (0, 0))) (by refine ⟨?_, ?_, ?_⟩ <;> (exact ck)) ?_
   rintro w4 ⟨hB4, qa, qb⟩
   obtain ⟨xa, xb, vc, ww⟩ := bk2 qa
   replace qa := Lib.hid qa
   obtain ⟨jd, je, vd, wx⟩ := bk2 qb
   replace qb := Lib.hid qb
   have hgo : gB ≠ w.heap.size + 1 + 1 := by omega
   clear hC2 hP hO hX
   go_region_held3 (fun w' => w'.cell? ⟨gB, 0, none⟩ = some (.int .i64 lo) ∧ w'.cell? ⟨gB, 1, none⟩ = some (.int .i64 hi)) (first | go_keep | exact ⟨afar2 (by assumption) (by omega), afar2 (by assumption) (by omega)⟩) (first | (have _t := tok7; go_at_call 38; (with_reducible refine ((TV _)).mono ?_); rintro e w7 ⟨rfl, hb7⟩; clear tok7 _t; have hz7 := hb7.size; (try simp only [sA, sB, sC, sD] at hz7); (try (obtain ⟨kq, jz⟩ := cfAt hb7 (w.heap.size); have xn := kq 0; have xo := kq 1; clear kq; simp [go_sem, *] at xn xo jz)); (try have ul : w.heap.size < w7.heap.size := by omega); (try (obtain ⟨kq, ya⟩ := cfAt hb7 (w.heap.size + 1); have xp := kq 0; have xq := kq 1; have xr := kq 2; clear kq; simp [go_sem, *] at xp xq xr ya)); (try have um : w.heap.size + 1 < w7.heap.size := by omega); (try (obtain ⟨kq, yb⟩ := cfAt hb7 (w.heap.size + 1 + 1); have qv := kq 0; have qw := kq 1; clear kq; simp [go_sem, *] at qv qw yb)); (try have un : w.heap.size + 1 + 1 < w7.heap.size := by omega); (try (obtain ⟨kq, vf⟩ := cfAt hb7 (gB); have jf := kq 0; have jg := kq 1; clear kq; simp [go_sem, *] at jf jg vf)); (try have gh : gB < w7.heap.size := by omega); (try clear qk ql qx); (try clear zf); (try clear qm qn qo qy); (try clear zg); (try clear qq qr qz); (try clear zh); (try clear qt qu xj); (try clear jj); (try clear yc yd vp); (try clear vq); (try clear ye yf yg vr); (try clear vt); (try clear yh yi vu); (try clear vv); (try clear yq yr wy); (try clear wz); (try clear xt xu yj); (try clear vw); (try clear xv xw xy yk); (try clear vy); (try clear za zb yl); (try clear wc); (try clear jh ji vg); (try clear ua); (try clear wi wj uo); (try clear uq); (try clear wk wl wm ur); (try clear us); (try clear wn wq ut); (try clear uw); (try clear ub uc gi); (try clear gj)))
   iterate 24 (first | (with_reducible show bodyPost _ _ _ _ _ _) | (with_reducible refine wp_ret ?_) | go_values | go_skip | go_guarded | go_step | go_upon | go_back | skip)
   refine bodyPost_ret (v := .tuple #[.agg #[.int .i64 lo, .int .i64 hi], .int .i64 5, .bool (validB lo hi)]) (by simp [results, Tryz.results59, go_sem, qv, qw, xa, xb]) rfl ⟨by rw [HLO.out, HHI.out]; rfl, ck⟩
end Go.Proofs.YtnkmgpmehkholaaGreat
