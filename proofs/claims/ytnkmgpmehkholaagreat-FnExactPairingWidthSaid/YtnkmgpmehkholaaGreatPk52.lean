/- Lemmas and contracts of functions. No condition. -/
import Derived.Test.YtnkmgpmehkholaaGreatPk6
import Derived.Test.YtnkmgpmehkholaaGreatPk36
import Derived.Test.YtnkmgpmehkholaaGreatPk49
import Derived.Test.YtnkmgpmehkholaaGreatPk50
import Derived.Test.YtnkmgpmehkholaaGreatPk51
import Derived.Deep.RegionHeld3
namespace Go.Proofs.YtnkmgpmehkholaaGreat
section
open Go.RowKit
set_option linter.unusedVariables false
set_option maxHeartbeats 4000000
set_option maxRecDepth 20000
set_option linter.unusedSimpArgs false
attribute [local go_sem] openAt openUpon
theorem kp_B {v : Bool} {x : Int} (h : 0 ≤ x ∧ x ≤ 14100000) : 0 ≤ kpV v x ∧ kpV v x ≤ 14100000 := by unfold kpV; split <;> omega
theorem cal_blk {T : TypeId} {w w1 : World} {p b : Nat} {v : Bool} {X : Obj} (h : Cal T w w1 p v) (e : w.heap[b]? = some X) (hne : b ≠ p) : w1.heap[b]? = some X := (h.block b (blk_lt' e) hne).trans e
theorem CalE.cell {T : TypeId} {w w1 : World} {p : Nat} (h : CalE T w w1 p) (b : Nat) (hb : b < w.heap.size) (hp : b ≠ p) (o : Nat) : w1.cell? ⟨b, o, none⟩ = w.cell? ⟨b, o, none⟩ := h.elim fun v h => calCell h b hb hp o
theorem pairing_yes {A B x1 y1 e1 x2 y2 e2 s1 s2 s3 : Int} (w : World) (h1 : pqB A B x1 y1 e1 = true) (h2 : pqB A B x2 y2 e2 = true) (hs : ptS A x1 y1 e1 x2 y2 e2 = (s1, s2, s3, true)) :
  Calls Tryz.prog 19 #[.agg #[.int .i64 A, .int .i64 B], .agg #[.int .i64 x1, .int .i64 y1, .int .i64 e1], .agg #[.int .i64 x2, .int .i64 y2, .int .i64 e2]] w fun r w' =>
   r = .returned (.tuple #[.agg #[.int .i64 (d2A (BK A B s1 s3) (BK A B x1 e1) (BK A B x2 e2) (BL A B s1 s3) (BH A B s1 s3) (BL A B x1 e1) (BH A B x1 e1) (BL A B x2 e2) (BH A B x2 e2)), .int .i64 (d2B (BK A B s1 s3) (BK A B x1 e1) (BK A B x2 e2) (BL A B s1 s3) (BH A B s1 s3) (BL A B x1 e1) (BH A B x1 e1) (BL A B x2 e2) (BH A B x2 e2))],
    .bool (d2V (BK A B s1 s3) (BK A B x1 e1) (BK A B x2 e2) (BL A B s1 s3) (BH A B s1 s3) (BL A B x1 e1) (BH A B x1 e1) (BL A B x2 e2) (BH A B x2 e2))]) ∧ Below w.heap.size w w' := by
 have hb := pq_bd h1
 have TP := fun W : World => Lib.hid (addPoints_any A B x1 y1 e1 x2 y2 e2 W hb.1 hb.2.1 (pq_pt h1) (pq_pt h2))
 have hok := ptS_ok hb.1 hb.2.1 (pq_pt h1) (pq_pt h2)
 rw [hs] at TP hok
 simp only at TP hok
 have hsp : pqB A B s1 s2 s3 = true := by
  rcases hok with h | h
  ·exact pq_of h1 h.2
  ·simp at h
 have bs := B_bd hsp
 have bp := B_bd h1
 have bq := B_bd h2
 have TS0 := fun (gp : Nat) (W : World) (hp : W.heap[gp]? = some (.cells #[.bool true] 59 (0, 0))) => spbest_any true W gp hp hsp
 have TB0 := fun (v : Bool) (gp : Nat) (W : World) (hp : W.heap[gp]? = some (.cells #[.bool v] 59 (0, 0))) => spbest_any v W gp hp h1
 have TC0 := fun (v : Bool) (gp : Nat) (W : World) (hp : W.heap[gp]? = some (.cells #[.bool v] 59 (0, 0))) => spbest_any v W gp hp h2
 simp only [Bool.true_and] at TS0
 generalize BK A B s1 s3 = k1 at *
 generalize BK A B x1 e1 = k2 at *
 generalize BK A B x2 e2 = k3 at *
 generalize BL A B s1 s3 = l1 at *
 generalize BH A B s1 s3 = u1 at *
 generalize BL A B x1 e1 = l2 at *
 generalize BH A B x1 e1 = u2 at *
 generalize BL A B x2 e2 = l3 at *
 generalize BH A B x2 e2 = u3 at *
 have c1 := kp_B (v := k1) bs.1
 have c2 := kp_B (v := k1) bs.2
 have c3 := kp_B (v := (k1 && k2)) bp.1
 have c4 := kp_B (v := (k1 && k2)) bp.2
 have dd := d_bd k1 k2 k3 l1 u1 l2 u2 l3 u3
 have c5 := kp_B (v := (d1V k1 k2 l1 u1 l2 u2 && k3)) bq.1
 have c6 := kp_B (v := (d1V k1 k2 l1 u1 l2 u2 && k3)) bq.2
 have TM10 := fun (gp : Nat) (W : World) (hp : W.heap[gp]? = some (.cells #[.bool (k1 && k2)] 59 (0, 0))) => spminus_any (kpV k1 l1) (kpV k1 u1) (kpV (k1 && k2) l2) (kpV (k1 && k2) u2) (k1 && k2) W gp hp (by omega) (by omega) (by omega) (by omega)
 have TM20 := fun (gp : Nat) (W : World) (hp : W.heap[gp]? = some (.cells #[.bool (d1V k1 k2 l1 u1 l2 u2 && k3)] 59 (0, 0))) => spminus_any (d1A k1 k2 l1 u1 l2 u2) (d1B k1 k2 l1 u1 l2 u2) (kpV (d1V k1 k2 l1 u1 l2 u2 && k3) l3) (kpV (d1V k1 k2 l1 u1 l2 u2 && k3) u3) (d1V k1 k2 l1 u1 l2 u2 && k3) W gp hp dd.1 dd.2 (by omega) (by omega)
 clear hb hok hs bs bp bq c1 c2 c3 c4 c5 c6 dd h1 h2 hsp
 have tok1 := trivial
 have tok2 := trivial
 have tok3 := trivial
 have tok4 := trivial
 have tok5 := trivial
 have tok6 := trivial
 have tok7 := trivial
 have tok8 := trivial
 have tok9 := trivial
 go_enter Tryz.func19, Tryz.ntmps19
 go_upto_region 1 with fail
 refine chk (fun W => Below w.heap.size w W ∧ W.heap[w.heap.size]? = some (.cells #[.int .i64 A, .int .i64 B] 32 (0, 0)) ∧ W.heap[w.heap.size + 1]? = some (.cells #[.int .i64 x1, .int .i64 y1, .int .i64 e1] 34 (0, 0)) ∧ W.heap[w.heap.size + 1 + 1]? = some (.cells #[.int .i64 x2, .int .i64 y2, .int .i64 e2] 34 (0, 0)) ∧ W.heap[w.heap.size + 1 + 1 + 1]? = some (.cells #[.int .i64 0, .int .i64 0] 44 (0, 0))) (by refine ⟨?_, ?_, ?_, ?_, ?_⟩ <;> (exact ck)) ?_
 rintro w1 ⟨hB1, xl, xm, xn, xo⟩
 obtain ⟨jz, ya, yt, vd⟩ := bk2 xl
 replace xl := Lib.hid xl
 obtain ⟨yb, yc, yd, yu, vf⟩ := bk3 xm
 replace xm := Lib.hid xm
 obtain ⟨ye, yf, yg, yv, vg⟩ := bk3 xn
 replace xn := Lib.hid xn
 obtain ⟨yh, yi, yw, vh⟩ := bk2 xo
 replace xo := Lib.hid xo
 go_upto_region 2 with (first | (have _t := tok2; go_at_call 28; (with_reducible refine ((TP _).out).mono ?_); rintro e w2 ⟨rfl, hb2⟩; clear tok2 _t; have hz2 := hb2.size; (try simp only [sA, sB, sC, sD] at hz2)))
 have hC2 := keepY hb2 xl.out
 have hP2 := keepY hb2 xm.out
 have hQ2 := keepY hb2 xn.out
 have hR2 := keepY hb2 xo.out
 have hB2 := below_via hb2 hB1 hB1.size
 clear hb2 TP
 go_upto_region 5 with fail
 replace xl := xl.out
 replace xm := xm.out
 replace xn := xn.out
 replace xo := xo.out
 refine chk (fun W => Below w.heap.size w W ∧ W.heap[w.heap.size]? = some (.cells #[.int .i64 A, .int .i64 B] 32 (0, 0)) ∧ W.heap[w.heap.size + 1]? = some (.cells #[.int .i64 x1, .int .i64 y1, .int .i64 e1] 34 (0, 0)) ∧ W.heap[w.heap.size + 1 + 1]? = some (.cells #[.int .i64 x2, .int .i64 y2, .int .i64 e2] 34 (0, 0)) ∧ W.heap[w.heap.size + 1 + 1 + 1]? = some (.cells #[.int .i64 0, .int .i64 0] 44 (0, 0)) ∧ W.heap[w2.heap.size]? = some (.cells #[.int .i64 s1, .int .i64 s2, .int .i64 s3] 34 (0, 0)) ∧ W.heap[w2.heap.size + 1]? = some (.cells #[.bool true] 59 (0, 0)) ∧ w.heap.size + 1 + 1 + 1 < w2.heap.size) (by refine ⟨?_, ?_, ?_, ?_, ?_, ?_, ?_, ?_⟩ <;> (exact ck)) ?_
 clear jz ya yt xl
 clear yb yc yd yu xm
 clear ye yf yg yv xn
 clear yh yi yw xo
 clear hB1
 rintro w3 ⟨hB3, qf, qg, qh, qa, qi, qe, hz2⟩
 obtain ⟨qj, qk, xw, jy⟩ := bk2 qf
 replace qf := Lib.hid qf
 obtain ⟨ql, qm, qn, xy, jk⟩ := bk3 qg
 replace qg := Lib.hid qg
 obtain ⟨qo, qq, qr, za, jl⟩ := bk3 qh
 replace qh := Lib.hid qh
 obtain ⟨qy, qz, zb, vi⟩ := bk2 qa
 replace qa := Lib.hid qa
 obtain ⟨qt, qu, qv, zc, jm⟩ := bk3 qi
 replace qi := Lib.hid qi
 obtain ⟨xa, zd, vj⟩ := bk1 qe
 replace qe := Lib.hid qe
 clear hC2 hP2 hQ2 hR2 hB2
 have HF := Lib.hid qe.out
 have TS := fun W hp => Lib.hid (TS0 (w2.heap.size + 1) W hp)
 have TB := fun W hp => Lib.hid (TB0 k1 (w2.heap.size + 1) W hp)
 have TC := fun W hp => Lib.hid (TC0 (d1V k1 k2 l1 u1 l2 u2) (w2.heap.size + 1) W hp)
 have TM1 := fun W hp => Lib.hid (show Calls Tryz.prog 32 #[.pointer (some ⟨w2.heap.size + 1, 0, none⟩), .agg #[.int .i64 (kpV k1 l1), .int .i64 (kpV k1 u1)], .agg #[.int .i64 (kpV (k1 && k2) l2), .int .i64 (kpV (k1 && k2) u2)]] W (fun e w' => e = .returned (.agg #[.int .i64 (d1A k1 k2 l1 u1 l2 u2), .int .i64 (d1B k1 k2 l1 u1 l2 u2)]) ∧ Cal 59 W w' (w2.heap.size + 1) (d1V k1 k2 l1 u1 l2 u2)) from TM10 (w2.heap.size + 1) W hp)
 have TM2 := fun W hp => Lib.hid (show Calls Tryz.prog 32 #[.pointer (some ⟨w2.heap.size + 1, 0, none⟩), .agg #[.int .i64 (d1A k1 k2 l1 u1 l2 u2), .int .i64 (d1B k1 k2 l1 u1 l2 u2)], .agg #[.int .i64 (kpV (d1V k1 k2 l1 u1 l2 u2 && k3) l3), .int .i64 (kpV (d1V k1 k2 l1 u1 l2 u2 && k3) u3)]] W (fun e w' => e = .returned (.agg #[.int .i64 (d2A k1 k2 k3 l1 u1 l2 u2 l3 u3), .int .i64 (d2B k1 k2 k3 l1 u1 l2 u2 l3 u3)]) ∧ Cal 59 W w' (w2.heap.size + 1) (d2V k1 k2 k3 l1 u1 l2 u2 l3 u3)) from TM20 (w2.heap.size + 1) W hp)
 clear TS0 TB0 TC0 TM10 TM20
 have HS := Lib.hid (fun (W : World) (hW : CalE 59 w3 W (w2.heap.size + 1)) => (⟨hW, (hW.cell _ jy (by omega) 0).trans qj, (hW.cell _ jy (by omega) 1).trans qk, (hW.cell _ jk (by omega) 0).trans ql, (hW.cell _ jk (by omega) 1).trans qm, (hW.cell _ jk (by omega) 2).trans qn, (hW.cell _ jl (by omega) 0).trans qo, (hW.cell _ jl (by omega) 1).trans qq, (hW.cell _ jl (by omega) 2).trans qr, (hW.cell _ jm (by omega) 0).trans qt, (hW.cell _ jm (by omega) 1).trans qu, (hW.cell _ jm (by omega) 2).trans qv⟩ : CalE 59 w3 W (w2.heap.size + 1) ∧ W.cell? ⟨w.heap.size, 0, none⟩ = some (.int .i64 A) ∧ W.cell? ⟨w.heap.size, 1, none⟩ = some (.int .i64 B) ∧ W.cell? ⟨w.heap.size + 1, 0, none⟩ = some (.int .i64 x1) ∧ W.cell? ⟨w.heap.size + 1, 1, none⟩ = some (.int .i64 y1) ∧ W.cell? ⟨w.heap.size + 1, 2, none⟩ = some (.int .i64 e1) ∧ W.cell? ⟨w.heap.size + 1 + 1, 0, none⟩ = some (.int .i64 x2) ∧ W.cell? ⟨w.heap.size + 1 + 1, 1, none⟩ = some (.int .i64 y2) ∧ W.cell? ⟨w.heap.size + 1 + 1, 2, none⟩ = some (.int .i64 e2) ∧ W.cell? ⟨w2.heap.size, 0, none⟩ = some (.int .i64 s1) ∧ W.cell? ⟨w2.heap.size, 1, none⟩ = some (.int .i64 s2) ∧ W.cell? ⟨w2.heap.size, 2, none⟩ = some (.int .i64 s3)))
 go_region_held3 (fun W => CalE 59 w3 W (w2.heap.size + 1) ∧ W.cell? ⟨w.heap.size, 0, none⟩ = some (.int .i64 A) ∧ W.cell? ⟨w.heap.size, 1, none⟩ = some (.int .i64 B) ∧ W.cell? ⟨w.heap.size + 1, 0, none⟩ = some (.int .i64 x1) ∧ W.cell? ⟨w.heap.size + 1, 1, none⟩ = some (.int .i64 y1) ∧ W.cell? ⟨w.heap.size + 1, 2, none⟩ = some (.int .i64 e1) ∧ W.cell? ⟨w.heap.size + 1 + 1, 0, none⟩ = some (.int .i64 x2) ∧ W.cell? ⟨w.heap.size + 1 + 1, 1, none⟩ = some (.int .i64 y2) ∧ W.cell? ⟨w.heap.size + 1 + 1, 2, none⟩ = some (.int .i64 e2) ∧ W.cell? ⟨w2.heap.size, 0, none⟩ = some (.int .i64 s1) ∧ W.cell? ⟨w2.heap.size, 1, none⟩ = some (.int .i64 s2) ∧ W.cell? ⟨w2.heap.size, 2, none⟩ = some (.int .i64 s3)) (exact HS.out _ clf) (first | (have _t := tok4; go_at_call 30; (with_reducible refine ((TS _ (by first | exact HF.out | exact bx_old HF.out _ | exact bx_drew HF.out | exact bx_drew (bx_old HF.out _))).out).mono ?_); rintro e w4 ⟨rfl, hb4⟩; clear tok4 _t; have hz4 := hb4.size; (try simp only [sA, sB, sC, sD] at hz4); (try (refine calCell' hb4 (w3.heap.size) 0 ?_ ?_ ?_; (focus (go_size; done)); (focus (omega; done)); intro qw; simp [go_sem, *] at qw)); (try (refine calCell' hb4 (w3.heap.size) 1 ?_ ?_ ?_; (focus (go_size; done)); (focus (omega; done)); intro qx; simp [go_sem, *] at qx)); (try (refine calFroz' hb4 (w3.heap.size) ?_ ?_ ?_; (focus (go_size; done)); (focus (omega; done)); intro xf; simp [go_sem, *] at xf)); (try (refine (fun (ze : w3.heap.size < w4.heap.size) => ?_) ?_; rotate_left; (focus (omega; done)))); have kp4 := calAt hb4; have fp4 := calFree hb4; have lp4 := Cal.lt hb4; (try clear kp1); (try clear fp1); (try clear kp2); (try clear fp2); (try clear kp3); (try clear fp3)) | (have _t := tok5; go_at_call 30; (with_reducible refine ((TB _ (by first | exact hb4.at_ | exact bx_old hb4.at_ _)).out).mono ?_); rintro e w5 ⟨rfl, hb5⟩; clear tok5 _t; have hz5 := hb5.size; (try simp only [sA, sB, sC, sD] at hz5); (try (refine calCell' hb5 (w3.heap.size) 0 ?_ ?_ ?_; (focus (go_size; done)); (focus (omega; done)); intro xb; simp [go_sem, *] at xb)); (try (refine calCell' hb5 (w3.heap.size) 1 ?_ ?_ ?_; (focus (go_size; done)); (focus (omega; done)); intro xc; simp [go_sem, *] at xc)); (try (refine calFroz' hb5 (w3.heap.size) ?_ ?_ ?_; (focus (go_size; done)); (focus (omega; done)); intro zf; simp [go_sem, *] at zf)); (try (refine (fun (zo : w3.heap.size < w5.heap.size) => ?_) ?_; rotate_left; (focus (omega; done)))); (try (refine calCell' hb5 (w4.heap.size) 0 ?_ ?_ ?_; (focus (go_size; done)); (focus (omega; done)); intro xd; simp [go_sem, *] at xd)); (try (refine calCell' hb5 (w4.heap.size) 1 ?_ ?_ ?_; (focus (go_size; done)); (focus (omega; done)); intro xe; simp [go_sem, *] at xe)); (try (refine calFroz' hb5 (w4.heap.size) ?_ ?_ ?_; (focus (go_size; done)); (focus (omega; done)); intro zg; simp [go_sem, *] at zg)); (try (refine (fun (zp : w4.heap.size < w5.heap.size) => ?_) ?_; rotate_left; (focus (omega; done)))); have kp5 := calAt hb5; have fp5 := calFree hb5; have lp5 := Cal.lt hb5; (try clear kp1); (try clear fp1); (try clear kp2); (try clear fp2); (try clear kp3); (try clear fp3); (try clear kp4); (try clear fp4); (try clear qw qx xf); (try clear ze)) | (have _t := tok6; go_at_call 32; (with_reducible refine ((TM1 _ (by first | exact hb5.at_ | exact bx_old hb5.at_ _)).out).mono ?_); rintro e w6 ⟨rfl, hb6⟩; clear tok6 _t; have hz6 := hb6.size; (try simp only [sA, sB, sC, sD] at hz6); (try (refine calCell' hb6 (w3.heap.size) 0 ?_ ?_ ?_; (focus (go_size; done)); (focus (omega; done)); intro xp; simp [go_sem, *] at xp)); (try (refine calCell' hb6 (w3.heap.size) 1 ?_ ?_ ?_; (focus (go_size; done)); (focus (omega; done)); intro xq; simp [go_sem, *] at xq)); (try (refine calFroz' hb6 (w3.heap.size) ?_ ?_ ?_; (focus (go_size; done)); (focus (omega; done)); intro zq; simp [go_sem, *] at zq)); (try (refine (fun (jd : w3.heap.size < w6.heap.size) => ?_) ?_; rotate_left; (focus (omega; done)))); (try (refine calCell' hb6 (w4.heap.size) 0 ?_ ?_ ?_; (focus (go_size; done)); (focus (omega; done)); intro xr; simp [go_sem, *] at xr)); (try (refine calCell' hb6 (w4.heap.size) 1 ?_ ?_ ?_; (focus (go_size; done)); (focus (omega; done)); intro xt; simp [go_sem, *] at xt)); (try (refine calFroz' hb6 (w4.heap.size) ?_ ?_ ?_; (focus (go_size; done)); (focus (omega; done)); intro zr; simp [go_sem, *] at zr)); (try (refine (fun (je : w4.heap.size < w6.heap.size) => ?_) ?_; rotate_left; (focus (omega; done)))); (try (refine calCell' hb6 (w5.heap.size) 0 ?_ ?_ ?_; (focus (go_size; done)); (focus (omega; done)); intro xu; simp [go_sem, *] at xu)); (try (refine calCell' hb6 (w5.heap.size) 1 ?_ ?_ ?_; (focus (go_size; done)); (focus (omega; done)); intro xv; simp [go_sem, *] at xv)); (try (refine calFroz' hb6 (w5.heap.size) ?_ ?_ ?_; (focus (go_size; done)); (focus (omega; done)); intro zt; simp [go_sem, *] at zt)); (try (refine (fun (jf : w5.heap.size < w6.heap.size) => ?_) ?_; rotate_left; (focus (omega; done)))); have kp6 := calAt hb6; have fp6 := calFree hb6; have lp6 := Cal.lt hb6; (try clear kp1); (try clear fp1); (try clear kp2); (try clear fp2); (try clear kp3); (try clear fp3); (try clear kp4); (try clear fp4); (try clear kp5); (try clear fp5); (try clear qw qx xf); (try clear ze); (try clear xb xc zf); (try clear zo); (try clear xd xe zg); (try clear zp)) | (have _t := tok7; go_at_call 30; (with_reducible refine ((TC _ (by first | exact hb6.at_ | exact bx_old hb6.at_ _)).out).mono ?_); rintro e w7 ⟨rfl, hb7⟩; clear tok7 _t; have hz7 := hb7.size; (try simp only [sA, sB, sC, sD] at hz7); (try (refine calCell' hb7 (w3.heap.size) 0 ?_ ?_ ?_; (focus (go_size; done)); (focus (omega; done)); intro zu; simp [go_sem, *] at zu)); (try (refine calCell' hb7 (w3.heap.size) 1 ?_ ?_ ?_; (focus (go_size; done)); (focus (omega; done)); intro zv; simp [go_sem, *] at zv)); (try (refine calFroz' hb7 (w3.heap.size) ?_ ?_ ?_; (focus (go_size; done)); (focus (omega; done)); intro jg; simp [go_sem, *] at jg)); (try (refine (fun (yj : w3.heap.size < w7.heap.size) => ?_) ?_; rotate_left; (focus (omega; done)))); (try (refine calCell' hb7 (w4.heap.size) 0 ?_ ?_ ?_; (focus (go_size; done)); (focus (omega; done)); intro zw; simp [go_sem, *] at zw)); (try (refine calCell' hb7 (w4.heap.size) 1 ?_ ?_ ?_; (focus (go_size; done)); (focus (omega; done)); intro zx; simp [go_sem, *] at zx)); (try (refine calFroz' hb7 (w4.heap.size) ?_ ?_ ?_; (focus (go_size; done)); (focus (omega; done)); intro jh; simp [go_sem, *] at jh)); (try (refine (fun (yk : w4.heap.size < w7.heap.size) => ?_) ?_; rotate_left; (focus (omega; done)))); (try (refine calCell' hb7 (w5.heap.size) 0 ?_ ?_ ?_; (focus (go_size; done)); (focus (omega; done)); intro zy; simp [go_sem, *] at zy)); (try (refine calCell' hb7 (w5.heap.size) 1 ?_ ?_ ?_; (focus (go_size; done)); (focus (omega; done)); intro ja; simp [go_sem, *] at ja)); (try (refine calFroz' hb7 (w5.heap.size) ?_ ?_ ?_; (focus (go_size; done)); (focus (omega; done)); intro ji; simp [go_sem, *] at ji)); (try (refine (fun (yl : w5.heap.size < w7.heap.size) => ?_) ?_; rotate_left; (focus (omega; done)))); (try (refine calCell' hb7 (w6.heap.size) 0 ?_ ?_ ?_; (focus (go_size; done)); (focus (omega; done)); intro jb; simp [go_sem, *] at jb)); (try (refine calCell' hb7 (w6.heap.size) 1 ?_ ?_ ?_; (focus (go_size; done)); (focus (omega; done)); intro jc; simp [go_sem, *] at jc)); (try (refine calFroz' hb7 (w6.heap.size) ?_ ?_ ?_; (focus (go_size; done)); (focus (omega; done)); intro jj; simp [go_sem, *] at jj)); (try (refine (fun (ym : w6.heap.size < w7.heap.size) => ?_) ?_; rotate_left; (focus (omega; done)))); have kp7 := calAt hb7; have fp7 := calFree hb7; have lp7 := Cal.lt hb7; (try clear kp1); (try clear fp1); (try clear kp2); (try clear fp2); (try clear kp3); (try clear fp3); (try clear kp4); (try clear fp4); (try clear kp5); (try clear fp5); (try clear kp6); (try clear fp6); (try clear qw qx xf); (try clear ze); (try clear xb xc zf); (try clear zo); (try clear xd xe zg); (try clear zp); (try clear xp xq zq); (try clear jd); (try clear xr xt zr); (try clear je); (try clear xu xv zt); (try clear jf)) | (have _t := tok8; go_at_call 32; (with_reducible refine ((TM2 _ (by first | exact hb7.at_ | exact bx_old hb7.at_ _)).out).mono ?_); rintro e w8 ⟨rfl, hb8⟩; clear tok8 _t; have hz8 := hb8.size; (try simp only [sA, sB, sC, sD] at hz8); (try (refine calCell' hb8 (w3.heap.size) 0 ?_ ?_ ?_; (focus (go_size; done)); (focus (omega; done)); intro jn; simp [go_sem, *] at jn)); (try (refine calCell' hb8 (w3.heap.size) 1 ?_ ?_ ?_; (focus (go_size; done)); (focus (omega; done)); intro jo; simp [go_sem, *] at jo)); (try (refine calFroz' hb8 (w3.heap.size) ?_ ?_ ?_; (focus (go_size; done)); (focus (omega; done)); intro yn; simp [go_sem, *] at yn)); (try (refine (fun (yx : w3.heap.size < w8.heap.size) => ?_) ?_; rotate_left; (focus (omega; done)))); (try (refine calCell' hb8 (w4.heap.size) 0 ?_ ?_ ?_; (focus (go_size; done)); (focus (omega; done)); intro jp; simp [go_sem, *] at jp)); (try (refine calCell' hb8 (w4.heap.size) 1 ?_ ?_ ?_; (focus (go_size; done)); (focus (omega; done)); intro jq; simp [go_sem, *] at jq)); (try (refine calFroz' hb8 (w4.heap.size) ?_ ?_ ?_; (focus (go_size; done)); (focus (omega; done)); intro yo; simp [go_sem, *] at yo)); (try (refine (fun (yz : w4.heap.size < w8.heap.size) => ?_) ?_; rotate_left; (focus (omega; done)))); (try (refine calCell' hb8 (w5.heap.size) 0 ?_ ?_ ?_; (focus (go_size; done)); (focus (omega; done)); intro jr; simp [go_sem, *] at jr)); (try (refine calCell' hb8 (w5.heap.size) 1 ?_ ?_ ?_; (focus (go_size; done)); (focus (omega; done)); intro jt; simp [go_sem, *] at jt)); (try (refine calFroz' hb8 (w5.heap.size) ?_ ?_ ?_; (focus (go_size; done)); (focus (omega; done)); intro yp; simp [go_sem, *] at yp)); (try (refine (fun (va : w5.heap.size < w8.heap.size) => ?_) ?_; rotate_left; (focus (omega; done)))); (try (refine calCell' hb8 (w6.heap.size) 0 ?_ ?_ ?_; (focus (go_size; done)); (focus (omega; done)); intro ju; simp [go_sem, *] at ju)); (try (refine calCell' hb8 (w6.heap.size) 1 ?_ ?_ ?_; (focus (go_size; done)); (focus (omega; done)); intro jv; simp [go_sem, *] at jv)); (try (refine calFroz' hb8 (w6.heap.size) ?_ ?_ ?_; (focus (go_size; done)); (focus (omega; done)); intro yq; simp [go_sem, *] at yq)); (try (refine (fun (vb : w6.heap.size < w8.heap.size) => ?_) ?_; rotate_left; (focus (omega; done)))); (try (refine calCell' hb8 (w7.heap.size) 0 ?_ ?_ ?_; (focus (go_size; done)); (focus (omega; done)); intro jw; simp [go_sem, *] at jw)); (try (refine calCell' hb8 (w7.heap.size) 1 ?_ ?_ ?_; (focus (go_size; done)); (focus (omega; done)); intro jx; simp [go_sem, *] at jx)); (try (refine calFroz' hb8 (w7.heap.size) ?_ ?_ ?_; (focus (go_size; done)); (focus (omega; done)); intro yr; simp [go_sem, *] at yr)); (try (refine (fun (vc : w7.heap.size < w8.heap.size) => ?_) ?_; rotate_left; (focus (omega; done)))); have kp8 := calAt hb8; have fp8 := calFree hb8; have lp8 := Cal.lt hb8; (try clear kp1); (try clear fp1); (try clear kp2); (try clear fp2); (try clear kp3); (try clear fp3); (try clear kp4); (try clear fp4); (try clear kp5); (try clear fp5); (try clear kp6); (try clear fp6); (try clear kp7); (try clear fp7); (try clear qw qx xf); (try clear ze); (try clear xb xc zf); (try clear zo); (try clear xd xe zg); (try clear zp); (try clear xp xq zq); (try clear jd); (try clear xr xt zr); (try clear je); (try clear xu xv zt); (try clear jf); (try clear zu zv jg); (try clear yj); (try clear zw zx jh); (try clear yk); (try clear zy ja ji); (try clear yl); (try clear jb jc jj); (try clear ym)))
 all_goals
  go_upto_region 6 with fail
 ·have _t := trivial
  have q4 : w4.heap[w.heap.size + 1 + 1 + 1]? = some (.cells #[.int .i64 0, .int .i64 0] 44 (0, 0)) := by first | exact cal_blk hb4 qa.out (by omega) | exact cal_blk hb4 (bx_old qa.out _) (by omega) | exact cal_blk hb4 (bx_drew (bx_old qa.out _)) (by omega)
  have q5 : w5.heap[w.heap.size + 1 + 1 + 1]? = some (.cells #[.int .i64 0, .int .i64 0] 44 (0, 0)) := by first | exact cal_blk hb5 q4 (by omega) | exact cal_blk hb5 (bx_old q4 _) (by omega) | exact cal_blk hb5 (bx_drew (bx_old q4 _)) (by omega)
  have q6 : w6.heap[w.heap.size + 1 + 1 + 1]? = some (.cells #[.int .i64 0, .int .i64 0] 44 (0, 0)) := by first | exact cal_blk hb6 q5 (by omega) | exact cal_blk hb6 (bx_old q5 _) (by omega) | exact cal_blk hb6 (bx_drew (bx_old q5 _)) (by omega)
  have q7 : w7.heap[w.heap.size + 1 + 1 + 1]? = some (.cells #[.int .i64 0, .int .i64 0] 44 (0, 0)) := by first | exact cal_blk hb7 q6 (by omega) | exact cal_blk hb7 (bx_old q6 _) (by omega) | exact cal_blk hb7 (bx_drew (bx_old q6 _)) (by omega)
  have q8 : w8.heap[w.heap.size + 1 + 1 + 1]? = some (.cells #[.int .i64 0, .int .i64 0] 44 (0, 0)) := by first | exact cal_blk hb8 q7 (by omega) | exact cal_blk hb8 (bx_old q7 _) (by omega) | exact cal_blk hb8 (bx_drew (bx_old q7 _)) (by omega)
  have hE8 : CalE 59 w3 w8 (w2.heap.size + 1) := clf
  have hB8 : Below w.heap.size w w8 := hB3.trans (hE8.below hB3.size (by omega))
  have hF8 := hb8.at_
  replace qf := qf.out
  replace qg := qg.out
  replace qh := qh.out
  replace qa := qa.out
  replace qi := qi.out
  replace qe := qe.out
  refine chk (fun W => Below w.heap.size w W ∧ W.heap[w.heap.size + 1 + 1 + 1]? = some (.cells #[.int .i64 0, .int .i64 0] 44 (0, 0)) ∧ W.heap[w2.heap.size + 1]? = some (.cells #[.bool (d2V k1 k2 k3 l1 u1 l2 u2 l3 u3)] 59 (0, 0)) ∧ W.heap[w8.heap.size]? = some (.cells #[.int .i64 (d2A k1 k2 k3 l1 u1 l2 u2 l3 u3), .int .i64 (d2B k1 k2 k3 l1 u1 l2 u2 l3 u3)] 44 (0, 0))) (by refine ⟨?_, ?_, ?_, ?_⟩ <;> (exact ck)) ?_
  clear qj qk xw qf
  clear ql qm qn xy qg
  clear qo qq qr za qh
  clear qy qz zb qa
  clear qt qu qv zc qi
  clear xa zd qe
  clear hB3
  rintro w9 ⟨hB9, qb, qc, qd⟩
  obtain ⟨xg, xh, zh, zi⟩ := bk2 qb
  replace qb := Lib.hid qb
  obtain ⟨xi, zj, zk⟩ := bk1 qc
  replace qc := Lib.hid qc
  obtain ⟨xj, xk, zm, zn⟩ := bk2 qd
  replace qd := Lib.hid qd
  clear hb4 hb5 hb6 hb7 hb8 q4 q5 q6 q7 q8 hE8 hF8 TS TB TC TM1 TM2 HS HF
  go_region
  all_goals
   iterate 40 (first | (with_reducible show bodyPost _ _ _ _ _ _) | (with_reducible refine wp_ret ?_) | go_values | go_skip | go_guarded | go_step | go_upon | go_back | skip)
   refine bodyPost_ret (v := .tuple #[.agg #[.int .i64 (d2A k1 k2 k3 l1 u1 l2 u2 l3 u3), .int .i64 (d2B k1 k2 k3 l1 u1 l2 u2 l3 u3)], .bool (d2V k1 k2 k3 l1 u1 l2 u2 l3 u3)]) (by simp [results, Tryz.results19, go_sem, *]) rfl ⟨rfl, ?_⟩
   exact bel
 ·have _t := trivial
  have q4 : w4.heap[w.heap.size + 1 + 1 + 1]? = some (.cells #[.int .i64 0, .int .i64 0] 44 (0, 0)) := by first | exact cal_blk hb4 qa.out (by omega) | exact cal_blk hb4 (bx_old qa.out _) (by omega) | exact cal_blk hb4 (bx_drew (bx_old qa.out _)) (by omega)
  have q5 : w5.heap[w.heap.size + 1 + 1 + 1]? = some (.cells #[.int .i64 0, .int .i64 0] 44 (0, 0)) := by first | exact cal_blk hb5 q4 (by omega) | exact cal_blk hb5 (bx_old q4 _) (by omega) | exact cal_blk hb5 (bx_drew (bx_old q4 _)) (by omega)
  have q6 : w6.heap[w.heap.size + 1 + 1 + 1]? = some (.cells #[.int .i64 0, .int .i64 0] 44 (0, 0)) := by first | exact cal_blk hb6 q5 (by omega) | exact cal_blk hb6 (bx_old q5 _) (by omega) | exact cal_blk hb6 (bx_drew (bx_old q5 _)) (by omega)
  have q7 : w7.heap[w.heap.size + 1 + 1 + 1]? = some (.cells #[.int .i64 0, .int .i64 0] 44 (0, 0)) := by first | exact cal_blk hb7 q6 (by omega) | exact cal_blk hb7 (bx_old q6 _) (by omega) | exact cal_blk hb7 (bx_drew (bx_old q6 _)) (by omega)
  have q8 : w8.heap[w.heap.size + 1 + 1 + 1]? = some (.cells #[.int .i64 0, .int .i64 0] 44 (0, 0)) := by first | exact cal_blk hb8 q7 (by omega) | exact cal_blk hb8 (bx_old q7 _) (by omega) | exact cal_blk hb8 (bx_drew (bx_old q7 _)) (by omega)
  have hE8 : CalE 59 w3 w8 (w2.heap.size + 1) := clf
  have hB8 : Below w.heap.size w w8 := hB3.trans (hE8.below hB3.size (by omega))
  have hF8 := hb8.at_
  have g8 : w8.heap[w7.heap.size]? = some (.cells #[.int .i64 0, .int .i64 0] 44 (0, 0)) := by first | exact cal_blk hb8 (heap_alloc_new w7 (.cells #[.int .i64 0, .int .i64 0] 44)) (by omega) | exact cal_blk hb8 (bx_drew (heap_alloc_new w7 (.cells #[.int .i64 0, .int .i64 0] 44))) (by omega)
  have hln : w2.heap.size + 1 < w7.heap.size := by omega
  replace qf := qf.out
  replace qg := qg.out
  replace qh := qh.out
  replace qa := qa.out
  replace qi := qi.out
  replace qe := qe.out
  refine chk (fun W => Below w.heap.size w W ∧ W.heap[w.heap.size + 1 + 1 + 1]? = some (.cells #[.int .i64 0, .int .i64 0] 44 (0, 0)) ∧ W.heap[w2.heap.size + 1]? = some (.cells #[.bool (d2V k1 k2 k3 l1 u1 l2 u2 l3 u3)] 59 (0, 0)) ∧ W.heap[w7.heap.size]? = some (.cells #[.int .i64 (d2A k1 k2 k3 l1 u1 l2 u2 l3 u3), .int .i64 (d2B k1 k2 k3 l1 u1 l2 u2 l3 u3)] 44 (0, 0))) (by refine ⟨?_, ?_, ?_, ?_⟩ <;> (exact ck)) ?_
  clear qj qk xw qf
  clear ql qm qn xy qg
  clear qo qq qr za qh
  clear qy qz zb qa
  clear qt qu qv zc qi
  clear xa zd qe
  clear hB3
  rintro w9 ⟨hB9, qb, qc, qd⟩
  obtain ⟨xg, xh, zh, zi⟩ := bk2 qb
  replace qb := Lib.hid qb
  obtain ⟨xi, zj, zk⟩ := bk1 qc
  replace qc := Lib.hid qc
  obtain ⟨xj, xk, zm, zn⟩ := bk2 qd
  replace qd := Lib.hid qd
  clear hb4 hb5 hb6 hb7 hb8 q4 q5 q6 q7 q8 hE8 hF8 TS TB TC TM1 TM2 HS HF
  go_region
  all_goals
   iterate 40 (first | (with_reducible show bodyPost _ _ _ _ _ _) | (with_reducible refine wp_ret ?_) | go_values | go_skip | go_guarded | go_step | go_upon | go_back | skip)
   refine bodyPost_ret (v := .tuple #[.agg #[.int .i64 (d2A k1 k2 k3 l1 u1 l2 u2 l3 u3), .int .i64 (d2B k1 k2 k3 l1 u1 l2 u2 l3 u3)], .bool (d2V k1 k2 k3 l1 u1 l2 u2 l3 u3)]) (by simp [results, Tryz.results19, go_sem, *]) rfl ⟨rfl, ?_⟩
   exact bel
 ·have _t := trivial
  have q4 : w4.heap[w.heap.size + 1 + 1 + 1]? = some (.cells #[.int .i64 0, .int .i64 0] 44 (0, 0)) := by first | exact cal_blk hb4 qa.out (by omega) | exact cal_blk hb4 (bx_old qa.out _) (by omega) | exact cal_blk hb4 (bx_drew (bx_old qa.out _)) (by omega)
  have q5 : w5.heap[w.heap.size + 1 + 1 + 1]? = some (.cells #[.int .i64 0, .int .i64 0] 44 (0, 0)) := by first | exact cal_blk hb5 q4 (by omega) | exact cal_blk hb5 (bx_old q4 _) (by omega) | exact cal_blk hb5 (bx_drew (bx_old q4 _)) (by omega)
  have q6 : w6.heap[w.heap.size + 1 + 1 + 1]? = some (.cells #[.int .i64 0, .int .i64 0] 44 (0, 0)) := by first | exact cal_blk hb6 q5 (by omega) | exact cal_blk hb6 (bx_old q5 _) (by omega) | exact cal_blk hb6 (bx_drew (bx_old q5 _)) (by omega)
  have q7 : w7.heap[w.heap.size + 1 + 1 + 1]? = some (.cells #[.int .i64 0, .int .i64 0] 44 (0, 0)) := by first | exact cal_blk hb7 q6 (by omega) | exact cal_blk hb7 (bx_old q6 _) (by omega) | exact cal_blk hb7 (bx_drew (bx_old q6 _)) (by omega)
  have q8 : w8.heap[w.heap.size + 1 + 1 + 1]? = some (.cells #[.int .i64 0, .int .i64 0] 44 (0, 0)) := by first | exact cal_blk hb8 q7 (by omega) | exact cal_blk hb8 (bx_old q7 _) (by omega) | exact cal_blk hb8 (bx_drew (bx_old q7 _)) (by omega)
  have hE8 : CalE 59 w3 w8 (w2.heap.size + 1) := clf
  have hB8 : Below w.heap.size w w8 := hB3.trans (hE8.below hB3.size (by omega))
  have hF8 := hb8.at_
  have g7 : w7.heap[w6.heap.size]? = some (.cells #[.int .i64 0, .int .i64 0] 44 (0, 0)) := by first | exact cal_blk hb7 (heap_alloc_new w6 (.cells #[.int .i64 0, .int .i64 0] 44)) (by omega) | exact cal_blk hb7 (bx_drew (heap_alloc_new w6 (.cells #[.int .i64 0, .int .i64 0] 44))) (by omega)
  have g8 : w8.heap[w6.heap.size]? = some (.cells #[.int .i64 0, .int .i64 0] 44 (0, 0)) := by first | exact cal_blk hb8 g7 (by omega) | exact cal_blk hb8 (bx_drew g7) (by omega)
  have hln : w2.heap.size + 1 < w6.heap.size := by omega
  replace qf := qf.out
  replace qg := qg.out
  replace qh := qh.out
  replace qa := qa.out
  replace qi := qi.out
  replace qe := qe.out
  refine chk (fun W => Below w.heap.size w W ∧ W.heap[w.heap.size + 1 + 1 + 1]? = some (.cells #[.int .i64 0, .int .i64 0] 44 (0, 0)) ∧ W.heap[w2.heap.size + 1]? = some (.cells #[.bool (d2V k1 k2 k3 l1 u1 l2 u2 l3 u3)] 59 (0, 0)) ∧ W.heap[w6.heap.size]? = some (.cells #[.int .i64 (d2A k1 k2 k3 l1 u1 l2 u2 l3 u3), .int .i64 (d2B k1 k2 k3 l1 u1 l2 u2 l3 u3)] 44 (0, 0))) (by refine ⟨?_, ?_, ?_, ?_⟩ <;> (exact ck)) ?_
  clear qj qk xw qf
  clear ql qm qn xy qg
  clear qo qq qr za qh
  clear qy qz zb qa
  clear qt qu qv zc qi
  clear xa zd qe
  clear hB3
  rintro w9 ⟨hB9, qb, qc, qd⟩
  obtain ⟨xg, xh, zh, zi⟩ := bk2 qb
  replace qb := Lib.hid qb
  obtain ⟨xi, zj, zk⟩ := bk1 qc
  replace qc := Lib.hid qc
  obtain ⟨xj, xk, zm, zn⟩ := bk2 qd
  replace qd := Lib.hid qd
  clear hb4 hb5 hb6 hb7 hb8 q4 q5 q6 q7 q8 hE8 hF8 TS TB TC TM1 TM2 HS HF
  go_region
  all_goals
   iterate 40 (first | (with_reducible show bodyPost _ _ _ _ _ _) | (with_reducible refine wp_ret ?_) | go_values | go_skip | go_guarded | go_step | go_upon | go_back | skip)
   refine bodyPost_ret (v := .tuple #[.agg #[.int .i64 (d2A k1 k2 k3 l1 u1 l2 u2 l3 u3), .int .i64 (d2B k1 k2 k3 l1 u1 l2 u2 l3 u3)], .bool (d2V k1 k2 k3 l1 u1 l2 u2 l3 u3)]) (by simp [results, Tryz.results19, go_sem, *]) rfl ⟨rfl, ?_⟩
   exact bel
 ·have _t := trivial
  have q4 : w4.heap[w.heap.size + 1 + 1 + 1]? = some (.cells #[.int .i64 0, .int .i64 0] 44 (0, 0)) := by first | exact cal_blk hb4 qa.out (by omega) | exact cal_blk hb4 (bx_old qa.out _) (by omega) | exact cal_blk hb4 (bx_drew (bx_old qa.out _)) (by omega)
  have q5 : w5.heap[w.heap.size + 1 + 1 + 1]? = some (.cells #[.int .i64 0, .int .i64 0] 44 (0, 0)) := by first | exact cal_blk hb5 q4 (by omega) | exact cal_blk hb5 (bx_old q4 _) (by omega) | exact cal_blk hb5 (bx_drew (bx_old q4 _)) (by omega)
  have q6 : w6.heap[w.heap.size + 1 + 1 + 1]? = some (.cells #[.int .i64 0, .int .i64 0] 44 (0, 0)) := by first | exact cal_blk hb6 q5 (by omega) | exact cal_blk hb6 (bx_old q5 _) (by omega) | exact cal_blk hb6 (bx_drew (bx_old q5 _)) (by omega)
  have q7 : w7.heap[w.heap.size + 1 + 1 + 1]? = some (.cells #[.int .i64 0, .int .i64 0] 44 (0, 0)) := by first | exact cal_blk hb7 q6 (by omega) | exact cal_blk hb7 (bx_old q6 _) (by omega) | exact cal_blk hb7 (bx_drew (bx_old q6 _)) (by omega)
  have q8 : w8.heap[w.heap.size + 1 + 1 + 1]? = some (.cells #[.int .i64 0, .int .i64 0] 44 (0, 0)) := by first | exact cal_blk hb8 q7 (by omega) | exact cal_blk hb8 (bx_old q7 _) (by omega) | exact cal_blk hb8 (bx_drew (bx_old q7 _)) (by omega)
  have hE8 : CalE 59 w3 w8 (w2.heap.size + 1) := clf
  have hB8 : Below w.heap.size w w8 := hB3.trans (hE8.below hB3.size (by omega))
  have hF8 := hb8.at_
  have g6 : w6.heap[w5.heap.size]? = some (.cells #[.int .i64 0, .int .i64 0] 44 (0, 0)) := by first | exact cal_blk hb6 (heap_alloc_new w5 (.cells #[.int .i64 0, .int .i64 0] 44)) (by omega) | exact cal_blk hb6 (bx_drew (heap_alloc_new w5 (.cells #[.int .i64 0, .int .i64 0] 44))) (by omega)
  have g7 : w7.heap[w5.heap.size]? = some (.cells #[.int .i64 0, .int .i64 0] 44 (0, 0)) := by first | exact cal_blk hb7 g6 (by omega) | exact cal_blk hb7 (bx_drew g6) (by omega)
  have g8 : w8.heap[w5.heap.size]? = some (.cells #[.int .i64 0, .int .i64 0] 44 (0, 0)) := by first | exact cal_blk hb8 g7 (by omega) | exact cal_blk hb8 (bx_drew g7) (by omega)
  have hln : w2.heap.size + 1 < w5.heap.size := by omega
  replace qf := qf.out
  replace qg := qg.out
  replace qh := qh.out
  replace qa := qa.out
  replace qi := qi.out
  replace qe := qe.out
  refine chk (fun W => Below w.heap.size w W ∧ W.heap[w.heap.size + 1 + 1 + 1]? = some (.cells #[.int .i64 0, .int .i64 0] 44 (0, 0)) ∧ W.heap[w2.heap.size + 1]? = some (.cells #[.bool (d2V k1 k2 k3 l1 u1 l2 u2 l3 u3)] 59 (0, 0)) ∧ W.heap[w5.heap.size]? = some (.cells #[.int .i64 (d2A k1 k2 k3 l1 u1 l2 u2 l3 u3), .int .i64 (d2B k1 k2 k3 l1 u1 l2 u2 l3 u3)] 44 (0, 0))) (by refine ⟨?_, ?_, ?_, ?_⟩ <;> (exact ck)) ?_
  clear qj qk xw qf
  clear ql qm qn xy qg
  clear qo qq qr za qh
  clear qy qz zb qa
  clear qt qu qv zc qi
  clear xa zd qe
  clear hB3
  rintro w9 ⟨hB9, qb, qc, qd⟩
  obtain ⟨xg, xh, zh, zi⟩ := bk2 qb
  replace qb := Lib.hid qb
  obtain ⟨xi, zj, zk⟩ := bk1 qc
  replace qc := Lib.hid qc
  obtain ⟨xj, xk, zm, zn⟩ := bk2 qd
  replace qd := Lib.hid qd
  clear hb4 hb5 hb6 hb7 hb8 q4 q5 q6 q7 q8 hE8 hF8 TS TB TC TM1 TM2 HS HF
  go_region
  all_goals
   iterate 40 (first | (with_reducible show bodyPost _ _ _ _ _ _) | (with_reducible refine wp_ret ?_) | go_values | go_skip | go_guarded | go_step | go_upon | go_back | skip)
   refine bodyPost_ret (v := .tuple #[.agg #[.int .i64 (d2A k1 k2 k3 l1 u1 l2 u2 l3 u3), .int .i64 (d2B k1 k2 k3 l1 u1 l2 u2 l3 u3)], .bool (d2V k1 k2 k3 l1 u1 l2 u2 l3 u3)]) (by simp [results, Tryz.results19, go_sem, *]) rfl ⟨rfl, ?_⟩
   exact bel
 ·have _t := trivial
  have q4 : w4.heap[w.heap.size + 1 + 1 + 1]? = some (.cells #[.int .i64 0, .int .i64 0] 44 (0, 0)) := by first | exact cal_blk hb4 qa.out (by omega) | exact cal_blk hb4 (bx_old qa.out _) (by omega) | exact cal_blk hb4 (bx_drew (bx_old qa.out _)) (by omega)
  have q5 : w5.heap[w.heap.size + 1 + 1 + 1]? = some (.cells #[.int .i64 0, .int .i64 0] 44 (0, 0)) := by first | exact cal_blk hb5 q4 (by omega) | exact cal_blk hb5 (bx_old q4 _) (by omega) | exact cal_blk hb5 (bx_drew (bx_old q4 _)) (by omega)
  have q6 : w6.heap[w.heap.size + 1 + 1 + 1]? = some (.cells #[.int .i64 0, .int .i64 0] 44 (0, 0)) := by first | exact cal_blk hb6 q5 (by omega) | exact cal_blk hb6 (bx_old q5 _) (by omega) | exact cal_blk hb6 (bx_drew (bx_old q5 _)) (by omega)
  have q7 : w7.heap[w.heap.size + 1 + 1 + 1]? = some (.cells #[.int .i64 0, .int .i64 0] 44 (0, 0)) := by first | exact cal_blk hb7 q6 (by omega) | exact cal_blk hb7 (bx_old q6 _) (by omega) | exact cal_blk hb7 (bx_drew (bx_old q6 _)) (by omega)
  have q8 : w8.heap[w.heap.size + 1 + 1 + 1]? = some (.cells #[.int .i64 0, .int .i64 0] 44 (0, 0)) := by first | exact cal_blk hb8 q7 (by omega) | exact cal_blk hb8 (bx_old q7 _) (by omega) | exact cal_blk hb8 (bx_drew (bx_old q7 _)) (by omega)
  have hE8 : CalE 59 w3 w8 (w2.heap.size + 1) := clf
  have hB8 : Below w.heap.size w w8 := hB3.trans (hE8.below hB3.size (by omega))
  have hF8 := hb8.at_
  have g5 : w5.heap[w4.heap.size]? = some (.cells #[.int .i64 0, .int .i64 0] 44 (0, 0)) := by first | exact cal_blk hb5 (heap_alloc_new w4 (.cells #[.int .i64 0, .int .i64 0] 44)) (by omega) | exact cal_blk hb5 (bx_drew (heap_alloc_new w4 (.cells #[.int .i64 0, .int .i64 0] 44))) (by omega)
  have g6 : w6.heap[w4.heap.size]? = some (.cells #[.int .i64 0, .int .i64 0] 44 (0, 0)) := by first | exact cal_blk hb6 g5 (by omega) | exact cal_blk hb6 (bx_drew g5) (by omega)
  have g7 : w7.heap[w4.heap.size]? = some (.cells #[.int .i64 0, .int .i64 0] 44 (0, 0)) := by first | exact cal_blk hb7 g6 (by omega) | exact cal_blk hb7 (bx_drew g6) (by omega)
  have g8 : w8.heap[w4.heap.size]? = some (.cells #[.int .i64 0, .int .i64 0] 44 (0, 0)) := by first | exact cal_blk hb8 g7 (by omega) | exact cal_blk hb8 (bx_drew g7) (by omega)
  have hln : w2.heap.size + 1 < w4.heap.size := by omega
  replace qf := qf.out
  replace qg := qg.out
  replace qh := qh.out
  replace qa := qa.out
  replace qi := qi.out
  replace qe := qe.out
  refine chk (fun W => Below w.heap.size w W ∧ W.heap[w.heap.size + 1 + 1 + 1]? = some (.cells #[.int .i64 0, .int .i64 0] 44 (0, 0)) ∧ W.heap[w2.heap.size + 1]? = some (.cells #[.bool (d2V k1 k2 k3 l1 u1 l2 u2 l3 u3)] 59 (0, 0)) ∧ W.heap[w4.heap.size]? = some (.cells #[.int .i64 (d2A k1 k2 k3 l1 u1 l2 u2 l3 u3), .int .i64 (d2B k1 k2 k3 l1 u1 l2 u2 l3 u3)] 44 (0, 0))) (by refine ⟨?_, ?_, ?_, ?_⟩ <;> (exact ck)) ?_
  clear qj qk xw qf
  clear ql qm qn xy qg
  clear qo qq qr za qh
  clear qy qz zb qa
  clear qt qu qv zc qi
  clear xa zd qe
  clear hB3
  rintro w9 ⟨hB9, qb, qc, qd⟩
  obtain ⟨xg, xh, zh, zi⟩ := bk2 qb
  replace qb := Lib.hid qb
  obtain ⟨xi, zj, zk⟩ := bk1 qc
  replace qc := Lib.hid qc
  obtain ⟨xj, xk, zm, zn⟩ := bk2 qd
  replace qd := Lib.hid qd
  clear hb4 hb5 hb6 hb7 hb8 q4 q5 q6 q7 q8 hE8 hF8 TS TB TC TM1 TM2 HS HF
  go_region
  all_goals
   iterate 40 (first | (with_reducible show bodyPost _ _ _ _ _ _) | (with_reducible refine wp_ret ?_) | go_values | go_skip | go_guarded | go_step | go_upon | go_back | skip)
   refine bodyPost_ret (v := .tuple #[.agg #[.int .i64 (d2A k1 k2 k3 l1 u1 l2 u2 l3 u3), .int .i64 (d2B k1 k2 k3 l1 u1 l2 u2 l3 u3)], .bool (d2V k1 k2 k3 l1 u1 l2 u2 l3 u3)]) (by simp [results, Tryz.results19, go_sem, *]) rfl ⟨rfl, ?_⟩
   exact bel
 ·have _t := trivial
  have q4 : w4.heap[w.heap.size + 1 + 1 + 1]? = some (.cells #[.int .i64 0, .int .i64 0] 44 (0, 0)) := by first | exact cal_blk hb4 qa.out (by omega) | exact cal_blk hb4 (bx_old qa.out _) (by omega) | exact cal_blk hb4 (bx_drew (bx_old qa.out _)) (by omega)
  have q5 : w5.heap[w.heap.size + 1 + 1 + 1]? = some (.cells #[.int .i64 0, .int .i64 0] 44 (0, 0)) := by first | exact cal_blk hb5 q4 (by omega) | exact cal_blk hb5 (bx_old q4 _) (by omega) | exact cal_blk hb5 (bx_drew (bx_old q4 _)) (by omega)
  have q6 : w6.heap[w.heap.size + 1 + 1 + 1]? = some (.cells #[.int .i64 0, .int .i64 0] 44 (0, 0)) := by first | exact cal_blk hb6 q5 (by omega) | exact cal_blk hb6 (bx_old q5 _) (by omega) | exact cal_blk hb6 (bx_drew (bx_old q5 _)) (by omega)
  have q7 : w7.heap[w.heap.size + 1 + 1 + 1]? = some (.cells #[.int .i64 0, .int .i64 0] 44 (0, 0)) := by first | exact cal_blk hb7 q6 (by omega) | exact cal_blk hb7 (bx_old q6 _) (by omega) | exact cal_blk hb7 (bx_drew (bx_old q6 _)) (by omega)
  have q8 : w8.heap[w.heap.size + 1 + 1 + 1]? = some (.cells #[.int .i64 0, .int .i64 0] 44 (0, 0)) := by first | exact cal_blk hb8 q7 (by omega) | exact cal_blk hb8 (bx_old q7 _) (by omega) | exact cal_blk hb8 (bx_drew (bx_old q7 _)) (by omega)
  have hE8 : CalE 59 w3 w8 (w2.heap.size + 1) := clf
  have hB8 : Below w.heap.size w w8 := hB3.trans (hE8.below hB3.size (by omega))
  have hF8 := hb8.at_
  have g4 : w4.heap[w3.heap.size]? = some (.cells #[.int .i64 0, .int .i64 0] 44 (0, 0)) := by first | exact cal_blk hb4 (heap_alloc_new w3 (.cells #[.int .i64 0, .int .i64 0] 44)) (by omega) | exact cal_blk hb4 (bx_drew (heap_alloc_new w3 (.cells #[.int .i64 0, .int .i64 0] 44))) (by omega)
  have g5 : w5.heap[w3.heap.size]? = some (.cells #[.int .i64 0, .int .i64 0] 44 (0, 0)) := by first | exact cal_blk hb5 g4 (by omega) | exact cal_blk hb5 (bx_drew g4) (by omega)
  have g6 : w6.heap[w3.heap.size]? = some (.cells #[.int .i64 0, .int .i64 0] 44 (0, 0)) := by first | exact cal_blk hb6 g5 (by omega) | exact cal_blk hb6 (bx_drew g5) (by omega)
  have g7 : w7.heap[w3.heap.size]? = some (.cells #[.int .i64 0, .int .i64 0] 44 (0, 0)) := by first | exact cal_blk hb7 g6 (by omega) | exact cal_blk hb7 (bx_drew g6) (by omega)
  have g8 : w8.heap[w3.heap.size]? = some (.cells #[.int .i64 0, .int .i64 0] 44 (0, 0)) := by first | exact cal_blk hb8 g7 (by omega) | exact cal_blk hb8 (bx_drew g7) (by omega)
  have hln : w2.heap.size + 1 < w3.heap.size := by omega
  replace qf := qf.out
  replace qg := qg.out
  replace qh := qh.out
  replace qa := qa.out
  replace qi := qi.out
  replace qe := qe.out
  refine chk (fun W => Below w.heap.size w W ∧ W.heap[w.heap.size + 1 + 1 + 1]? = some (.cells #[.int .i64 0, .int .i64 0] 44 (0, 0)) ∧ W.heap[w2.heap.size + 1]? = some (.cells #[.bool (d2V k1 k2 k3 l1 u1 l2 u2 l3 u3)] 59 (0, 0)) ∧ W.heap[w3.heap.size]? = some (.cells #[.int .i64 (d2A k1 k2 k3 l1 u1 l2 u2 l3 u3), .int .i64 (d2B k1 k2 k3 l1 u1 l2 u2 l3 u3)] 44 (0, 0))) (by refine ⟨?_, ?_, ?_, ?_⟩ <;> (exact ck)) ?_
  clear qj qk xw qf
  clear ql qm qn xy qg
  clear qo qq qr za qh
  clear qy qz zb qa
  clear qt qu qv zc qi
  clear xa zd qe
  clear hB3
  rintro w9 ⟨hB9, qb, qc, qd⟩
  obtain ⟨xg, xh, zh, zi⟩ := bk2 qb
  replace qb := Lib.hid qb
  obtain ⟨xi, zj, zk⟩ := bk1 qc
  replace qc := Lib.hid qc
  obtain ⟨xj, xk, zm, zn⟩ := bk2 qd
  replace qd := Lib.hid qd
  clear hb4 hb5 hb6 hb7 hb8 q4 q5 q6 q7 q8 hE8 hF8 TS TB TC TM1 TM2 HS HF
  go_region
  all_goals
   iterate 40 (first | (with_reducible show bodyPost _ _ _ _ _ _) | (with_reducible refine wp_ret ?_) | go_values | go_skip | go_guarded | go_step | go_upon | go_back | skip)
   refine bodyPost_ret (v := .tuple #[.agg #[.int .i64 (d2A k1 k2 k3 l1 u1 l2 u2 l3 u3), .int .i64 (d2B k1 k2 k3 l1 u1 l2 u2 l3 u3)], .bool (d2V k1 k2 k3 l1 u1 l2 u2 l3 u3)]) (by simp [results, Tryz.results19, go_sem, *]) rfl ⟨rfl, ?_⟩
   exact bel
end
section
open Go.RowKit
set_option linter.unusedVariables false
set_option maxHeartbeats 4000000
set_option maxRecDepth 20000
set_option linter.unusedSimpArgs false
attribute [local go_sem] openAt openUpon
theorem pairing_no {A B x1 y1 e1 x2 y2 e2 s1 s2 s3 : Int} (w : World) (h1 : pqB A B x1 y1 e1 = true) (h2 : pqB A B x2 y2 e2 = true) (hs : ptS A x1 y1 e1 x2 y2 e2 = (s1, s2, s3, false)) :
  Calls Tryz.prog 19 #[.agg #[.int .i64 A, .int .i64 B], .agg #[.int .i64 x1, .int .i64 y1, .int .i64 e1], .agg #[.int .i64 x2, .int .i64 y2, .int .i64 e2]] w fun r w' =>
   r = .returned (.tuple #[.agg #[.int .i64 0, .int .i64 0], .bool false]) ∧ Below w.heap.size w w' := by
 have hb := pq_bd h1
 have TP := fun W : World => Lib.hid (addPoints_any A B x1 y1 e1 x2 y2 e2 W hb.1 hb.2.1 (pq_pt h1) (pq_pt h2))
 rw [hs] at TP
 simp only at TP
 clear hb hs h1 h2
 have tok1 := trivial
 have tok2 := trivial
 have tok3 := trivial
 have tok4 := trivial
 have tok5 := trivial
 have tok6 := trivial
 have tok7 := trivial
 have tok8 := trivial
 have tok9 := trivial
 go_enter Tryz.func19, Tryz.ntmps19
 go_upto_region 1 with fail
 refine chk (fun W => Below w.heap.size w W ∧ W.heap[w.heap.size + 1 + 1 + 1]? = some (.cells #[.int .i64 0, .int .i64 0] 44 (0, 0)) ∧ W.heap[w.heap.size]? = some (.cells #[.int .i64 A, .int .i64 B] 32 (0, 0)) ∧ W.heap[w.heap.size + 1]? = some (.cells #[.int .i64 x1, .int .i64 y1, .int .i64 e1] 34 (0, 0)) ∧ W.heap[w.heap.size + 1 + 1]? = some (.cells #[.int .i64 x2, .int .i64 y2, .int .i64 e2] 34 (0, 0))) (by refine ⟨?_, ?_, ?_, ?_, ?_⟩ <;> (exact ck)) ?_
 rintro w1 ⟨hB1, qa, qb, qc, qd⟩
 obtain ⟨qf, qg, qq, qx⟩ := bk2 qa
 replace qa := Lib.hid qa
 obtain ⟨qh, qi, qr, qy⟩ := bk2 qb
 replace qb := Lib.hid qb
 obtain ⟨qj, qk, ql, qt, qz⟩ := bk3 qc
 replace qc := Lib.hid qc
 obtain ⟨qm, qn, qo, qu, xa⟩ := bk3 qd
 replace qd := Lib.hid qd
 go_upto_region 2 with (first | (have _t := tok2; go_at_call 28; (with_reducible refine ((TP _).out).mono ?_); rintro e w2 ⟨rfl, hb2⟩; clear tok2 _t; have hz2 := hb2.size; (try simp only [sA, sB, sC, sD] at hz2)))
 have hR2 := keepY hb2 qa.out
 have hB2 := below_via hb2 hB1 hB1.size
 clear hb2 TP
 replace qa := qa.out
 replace qb := qb.out
 replace qc := qc.out
 replace qd := qd.out
 refine chk (fun W => Below w.heap.size w W ∧ W.heap[w.heap.size + 1 + 1 + 1]? = some (.cells #[.int .i64 0, .int .i64 0] 44 (0, 0))) (by refine ⟨?_, ?_⟩ <;> (exact ck)) ?_
 clear qf qg qq qa
 clear qh qi qr qb
 clear qj qk ql qt qc
 clear qm qn qo qu qd
 clear hB1
 rintro w3 ⟨hB3, qe⟩
 obtain ⟨qv, qw, xb, xc⟩ := bk2 qe
 replace qe := Lib.hid qe
 clear hR2 hB2
 go_upto_region 4 with fail
 iterate 40 (first | (with_reducible show bodyPost _ _ _ _ _ _) | (with_reducible refine wp_ret ?_) | go_values | go_skip | go_guarded | go_step | go_upon | go_back | skip)
 refine bodyPost_ret (v := .tuple #[.agg #[.int .i64 0, .int .i64 0], .bool false]) (by simp [results, Tryz.results19, go_sem, *]) rfl ⟨rfl, ?_⟩
 exact bel
end
section
open Go.RowKit
set_option linter.unusedVariables false
set_option maxHeartbeats 4000000
set_option maxRecDepth 20000
set_option linter.unusedSimpArgs false
attribute [local go_sem] openAt openUpon
theorem d2_valid {k1 k2 k3 : Bool} {l1 h1 l2 h2 l3 h3 : Int} (h : d2V k1 k2 k3 l1 h1 l2 h2 l3 h3 = true) : validB (d2A k1 k2 k3 l1 h1 l2 h2 l3 h3) (d2B k1 k2 k3 l1 h1 l2 h2 l3 h3) = true := by
 unfold d2A d2B
 rw [h]
 unfold d2V at h
 rw [Bool.and_eq_true] at h
 simpa [kpV] using h.2
theorem PairingOf_any (A B x1 y1 e1 x2 y2 e2 : Int) (w : World) : Calls Tryz.prog 9 #[.agg #[.int .i64 A, .int .i64 B], .agg #[.int .i64 x1, .int .i64 y1, .int .i64 e1], .agg #[.int .i64 x2, .int .i64 y2, .int .i64 e2]] w fun r w' =>
   r = .returned (.tuple #[.agg #[.int .i64 (prF A B x1 y1 e1 x2 y2 e2).1, .int .i64 (prF A B x1 y1 e1 x2 y2 e2).2.1, .int .i64 (prF A B x1 y1 e1 x2 y2 e2).2.2.1, .int .i64 (prF A B x1 y1 e1 x2 y2 e2).2.2.2.1], .bool (prF A B x1 y1 e1 x2 y2 e2).2.2.2.2]) ∧ Below w.heap.size w w' := by
 have T1 := fun W : World => Lib.hid (isP_any A B x1 y1 e1 W)
 have TQ := fun W : World => Lib.hid (isP_any A B x2 y2 e2 W)
 cases h1 : pqB A B x1 y1 e1
 ·rw [h1] at T1
  rw [show prF A B x1 y1 e1 x2 y2 e2 = ivZ by simp [prF, h1]]
  clear h1
  unfold ivZ
  have tok1 := trivial
  have tok2 := trivial
  have tok3 := trivial
  have tok4 := trivial
  go_enter Tryz.func9, Tryz.ntmps9
  go_upto_region 2 with (first | (have _t := tok1; go_at_call 18; (with_reducible refine ((T1 _).out).mono ?_); rintro e w1 ⟨rfl, hb1⟩; clear tok1 _t; have hz1 := hb1.size; (try simp only [sA, sB, sC, sD] at hz1); (try (obtain ⟨kq, xa⟩ := cfAt hb1 (w.heap.size); have qa := kq 0; have qb := kq 1; clear kq; simp [go_sem, *] at qa qb xa)); (try have xe : w.heap.size < w1.heap.size := by omega); (try (obtain ⟨kq, xb⟩ := cfAt hb1 (w.heap.size + 1); have qc := kq 0; have qd := kq 1; have qe := kq 2; clear kq; simp [go_sem, *] at qc qd qe xb)); (try have xf : w.heap.size + 1 < w1.heap.size := by omega); (try (obtain ⟨kq, xc⟩ := cfAt hb1 (w.heap.size + 1 + 1); have qf := kq 0; have qg := kq 1; have qh := kq 2; clear kq; simp [go_sem, *] at qf qg qh xc)); (try have xg : w.heap.size + 1 + 1 < w1.heap.size := by omega); (try (obtain ⟨kq, xd⟩ := cfAt hb1 (w.heap.size + 1 + 1 + 1); have qi := kq 0; have qj := kq 1; have qk := kq 2; have ql := kq 3; clear kq; simp [go_sem, *] at qi qj qk ql xd)); (try have xh : w.heap.size + 1 + 1 + 1 < w1.heap.size := by omega)) | (have _t := tok2; go_at_call 18; (with_reducible refine ((TQ _).out).mono ?_); rintro e w2 ⟨rfl, hb2⟩; clear tok2 _t; have hz2 := hb2.size; (try simp only [sA, sB, sC, sD] at hz2); (try (obtain ⟨kq, xi⟩ := cfAt hb2 (w.heap.size); have qm := kq 0; have qn := kq 1; clear kq; simp [go_sem, *] at qm qn xi)); (try have zb : w.heap.size < w2.heap.size := by omega); (try (obtain ⟨kq, xj⟩ := cfAt hb2 (w.heap.size + 1); have qo := kq 0; have qq := kq 1; have qr := kq 2; clear kq; simp [go_sem, *] at qo qq qr xj)); (try have zc : w.heap.size + 1 < w2.heap.size := by omega); (try (obtain ⟨kq, xk⟩ := cfAt hb2 (w.heap.size + 1 + 1); have qt := kq 0; have qu := kq 1; have qv := kq 2; clear kq; simp [go_sem, *] at qt qu qv xk)); (try have zd : w.heap.size + 1 + 1 < w2.heap.size := by omega); (try (obtain ⟨kq, xl⟩ := cfAt hb2 (w.heap.size + 1 + 1 + 1); have qw := kq 0; have qx := kq 1; have qy := kq 2; have qz := kq 3; clear kq; simp [go_sem, *] at qw qx qy qz xl)); (try have ze : w.heap.size + 1 + 1 + 1 < w2.heap.size := by omega); (try clear qa qb xa); (try clear xe); (try clear qc qd qe xb); (try clear xf); (try clear qf qg qh xc); (try clear xg); (try clear qi qj qk ql xd); (try clear xh)))
  iterate 40 (first | (with_reducible show bodyPost _ _ _ _ _ _) | (with_reducible refine wp_ret ?_) | go_values | go_skip | go_guarded | go_step | go_upon | go_back | skip)
  refine bodyPost_ret (v := _) (by simp [results, Tryz.results9, go_sem, *]) rfl ⟨rfl, ?_⟩
  exact bel
 ·rw [h1] at T1
  cases h2 : pqB A B x2 y2 e2
  ·rw [h2] at TQ
   rw [show prF A B x1 y1 e1 x2 y2 e2 = ivZ by simp [prF, h2]]
   clear h1 h2
   unfold ivZ
   have tok1 := trivial
   have tok2 := trivial
   have tok3 := trivial
   have tok4 := trivial
   go_enter Tryz.func9, Tryz.ntmps9
   go_upto_region 2 with (first | (have _t := tok1; go_at_call 18; (with_reducible refine ((T1 _).out).mono ?_); rintro e w1 ⟨rfl, hb1⟩; clear tok1 _t; have hz1 := hb1.size; (try simp only [sA, sB, sC, sD] at hz1); (try (obtain ⟨kq, xa⟩ := cfAt hb1 (w.heap.size); have qa := kq 0; have qb := kq 1; clear kq; simp [go_sem, *] at qa qb xa)); (try have xe : w.heap.size < w1.heap.size := by omega); (try (obtain ⟨kq, xb⟩ := cfAt hb1 (w.heap.size + 1); have qc := kq 0; have qd := kq 1; have qe := kq 2; clear kq; simp [go_sem, *] at qc qd qe xb)); (try have xf : w.heap.size + 1 < w1.heap.size := by omega); (try (obtain ⟨kq, xc⟩ := cfAt hb1 (w.heap.size + 1 + 1); have qf := kq 0; have qg := kq 1; have qh := kq 2; clear kq; simp [go_sem, *] at qf qg qh xc)); (try have xg : w.heap.size + 1 + 1 < w1.heap.size := by omega); (try (obtain ⟨kq, xd⟩ := cfAt hb1 (w.heap.size + 1 + 1 + 1); have qi := kq 0; have qj := kq 1; have qk := kq 2; have ql := kq 3; clear kq; simp [go_sem, *] at qi qj qk ql xd)); (try have xh : w.heap.size + 1 + 1 + 1 < w1.heap.size := by omega)) | (have _t := tok2; go_at_call 18; (with_reducible refine ((TQ _).out).mono ?_); rintro e w2 ⟨rfl, hb2⟩; clear tok2 _t; have hz2 := hb2.size; (try simp only [sA, sB, sC, sD] at hz2); (try (obtain ⟨kq, xi⟩ := cfAt hb2 (w.heap.size); have qm := kq 0; have qn := kq 1; clear kq; simp [go_sem, *] at qm qn xi)); (try have zb : w.heap.size < w2.heap.size := by omega); (try (obtain ⟨kq, xj⟩ := cfAt hb2 (w.heap.size + 1); have qo := kq 0; have qq := kq 1; have qr := kq 2; clear kq; simp [go_sem, *] at qo qq qr xj)); (try have zc : w.heap.size + 1 < w2.heap.size := by omega); (try (obtain ⟨kq, xk⟩ := cfAt hb2 (w.heap.size + 1 + 1); have qt := kq 0; have qu := kq 1; have qv := kq 2; clear kq; simp [go_sem, *] at qt qu qv xk)); (try have zd : w.heap.size + 1 + 1 < w2.heap.size := by omega); (try (obtain ⟨kq, xl⟩ := cfAt hb2 (w.heap.size + 1 + 1 + 1); have qw := kq 0; have qx := kq 1; have qy := kq 2; have qz := kq 3; clear kq; simp [go_sem, *] at qw qx qy qz xl)); (try have ze : w.heap.size + 1 + 1 + 1 < w2.heap.size := by omega); (try clear qa qb xa); (try clear xe); (try clear qc qd qe xb); (try clear xf); (try clear qf qg qh xc); (try clear xg); (try clear qi qj qk ql xd); (try clear xh)))
   iterate 40 (first | (with_reducible show bodyPost _ _ _ _ _ _) | (with_reducible refine wp_ret ?_) | go_values | go_skip | go_guarded | go_step | go_upon | go_back | skip)
   refine bodyPost_ret (v := _) (by simp [results, Tryz.results9, go_sem, *]) rfl ⟨rfl, ?_⟩
   exact bel
  ·rw [h2] at TQ
   rw [show prF A B x1 y1 e1 x2 y2 e2 = prV A B x1 y1 e1 x2 y2 e2 by simp [prF, h1, h2]]
   obtain ⟨s1, s2, s3, ok, hs⟩ : ∃ a b c d, ptS A x1 y1 e1 x2 y2 e2 = (a, b, c, d) := ⟨_, _, _, _, rfl⟩
   cases ok
   ·have T2 := fun W : World => Lib.hid (pairing_no W h1 h2 hs)
    rw [pr_none hs]
    have T3 := fun W : World => Lib.hid (interval_any 0 0 false W)
    rw [ivV_no (by simp)] at T3
    unfold ivZ
    clear h1 h2 hs
    have tok1 := trivial
    have tok2 := trivial
    have tok3 := trivial
    have tok4 := trivial
    go_enter Tryz.func9, Tryz.ntmps9
    go_wp2_with (first | (have _t := tok1; go_at_call 18; (with_reducible refine ((T1 _).out).mono ?_); rintro e w1 ⟨rfl, hb1⟩; clear tok1 _t; have hz1 := hb1.size; (try simp only [sA, sB, sC, sD] at hz1); (try (obtain ⟨kq, xa⟩ := cfAt hb1 (w.heap.size); have qa := kq 0; have qb := kq 1; clear kq; simp [go_sem, *] at qa qb xa)); (try have xe : w.heap.size < w1.heap.size := by omega); (try (obtain ⟨kq, xb⟩ := cfAt hb1 (w.heap.size + 1); have qc := kq 0; have qd := kq 1; have qe := kq 2; clear kq; simp [go_sem, *] at qc qd qe xb)); (try have xf : w.heap.size + 1 < w1.heap.size := by omega); (try (obtain ⟨kq, xc⟩ := cfAt hb1 (w.heap.size + 1 + 1); have qf := kq 0; have qg := kq 1; have qh := kq 2; clear kq; simp [go_sem, *] at qf qg qh xc)); (try have xg : w.heap.size + 1 + 1 < w1.heap.size := by omega); (try (obtain ⟨kq, xd⟩ := cfAt hb1 (w.heap.size + 1 + 1 + 1); have qi := kq 0; have qj := kq 1; have qk := kq 2; have ql := kq 3; clear kq; simp [go_sem, *] at qi qj qk ql xd)); (try have xh : w.heap.size + 1 + 1 + 1 < w1.heap.size := by omega)) | (have _t := tok2; go_at_call 18; (with_reducible refine ((TQ _).out).mono ?_); rintro e w2 ⟨rfl, hb2⟩; clear tok2 _t; have hz2 := hb2.size; (try simp only [sA, sB, sC, sD] at hz2); (try (obtain ⟨kq, xi⟩ := cfAt hb2 (w.heap.size); have qm := kq 0; have qn := kq 1; clear kq; simp [go_sem, *] at qm qn xi)); (try have zb : w.heap.size < w2.heap.size := by omega); (try (obtain ⟨kq, xj⟩ := cfAt hb2 (w.heap.size + 1); have qo := kq 0; have qq := kq 1; have qr := kq 2; clear kq; simp [go_sem, *] at qo qq qr xj)); (try have zc : w.heap.size + 1 < w2.heap.size := by omega); (try (obtain ⟨kq, xk⟩ := cfAt hb2 (w.heap.size + 1 + 1); have qt := kq 0; have qu := kq 1; have qv := kq 2; clear kq; simp [go_sem, *] at qt qu qv xk)); (try have zd : w.heap.size + 1 + 1 < w2.heap.size := by omega); (try (obtain ⟨kq, xl⟩ := cfAt hb2 (w.heap.size + 1 + 1 + 1); have qw := kq 0; have qx := kq 1; have qy := kq 2; have qz := kq 3; clear kq; simp [go_sem, *] at qw qx qy qz xl)); (try have ze : w.heap.size + 1 + 1 + 1 < w2.heap.size := by omega); (try clear qa qb xa); (try clear xe); (try clear qc qd qe xb); (try clear xf); (try clear qf qg qh xc); (try clear xg); (try clear qi qj qk ql xd); (try clear xh)) | (have _t := tok3; go_at_call 19; (with_reducible refine ((T2 _).out).mono ?_); rintro e w3 ⟨rfl, hb3⟩; clear tok3 _t; have hz3 := hb3.size; (try simp only [sA, sB, sC, sD] at hz3); (try (obtain ⟨kq, zf⟩ := cfAt hb3 (w.heap.size); have xm := kq 0; have xn := kq 1; clear kq; simp [go_sem, *] at xm xn zf)); (try have jb : w.heap.size < w3.heap.size := by omega); (try (obtain ⟨kq, zg⟩ := cfAt hb3 (w.heap.size + 1); have xo := kq 0; have xp := kq 1; have xq := kq 2; clear kq; simp [go_sem, *] at xo xp xq zg)); (try have jc : w.heap.size + 1 < w3.heap.size := by omega); (try (obtain ⟨kq, zh⟩ := cfAt hb3 (w.heap.size + 1 + 1); have xr := kq 0; have xt := kq 1; have xu := kq 2; clear kq; simp [go_sem, *] at xr xt xu zh)); (try have jd : w.heap.size + 1 + 1 < w3.heap.size := by omega); (try (obtain ⟨kq, zi⟩ := cfAt hb3 (w.heap.size + 1 + 1 + 1); have xv := kq 0; have xw := kq 1; have xy := kq 2; have za := kq 3; clear kq; simp [go_sem, *] at xv xw xy za zi)); (try have je : w.heap.size + 1 + 1 + 1 < w3.heap.size := by omega); (try clear qa qb xa); (try clear xe); (try clear qc qd qe xb); (try clear xf); (try clear qf qg qh xc); (try clear xg); (try clear qi qj qk ql xd); (try clear xh); (try clear qm qn xi); (try clear zb); (try clear qo qq qr xj); (try clear zc); (try clear qt qu qv xk); (try clear zd); (try clear qw qx qy qz xl); (try clear ze)) | (have _t := tok4; go_at_call 20; (with_reducible refine ((T3 _).out).mono ?_); rintro e w4 ⟨rfl, hb4⟩; clear tok4 _t; have hz4 := hb4.size; (try simp only [sA, sB, sC, sD] at hz4); (try (obtain ⟨kq, jf⟩ := cfAt hb4 (w.heap.size); have zm := kq 0; have zn := kq 1; clear kq; simp [go_sem, *] at zm zn jf)); (try have jk : w.heap.size < w4.heap.size := by omega); (try (obtain ⟨kq, jg⟩ := cfAt hb4 (w.heap.size + 1); have zo := kq 0; have zp := kq 1; have zq := kq 2; clear kq; simp [go_sem, *] at zo zp zq jg)); (try have jl : w.heap.size + 1 < w4.heap.size := by omega); (try (obtain ⟨kq, jh⟩ := cfAt hb4 (w.heap.size + 1 + 1); have zr := kq 0; have zt := kq 1; have zu := kq 2; clear kq; simp [go_sem, *] at zr zt zu jh)); (try have jm : w.heap.size + 1 + 1 < w4.heap.size := by omega); (try (obtain ⟨kq, ji⟩ := cfAt hb4 (w.heap.size + 1 + 1 + 1); have zv := kq 0; have zw := kq 1; have zx := kq 2; have zy := kq 3; clear kq; simp [go_sem, *] at zv zw zx zy ji)); (try have jn : w.heap.size + 1 + 1 + 1 < w4.heap.size := by omega); (try (obtain ⟨kq, ja⟩ := cfAt hb4 (w3.heap.size); have zj := kq 0; have zk := kq 1; clear kq; simp [go_sem, *] at zj zk ja)); (try have jj : w3.heap.size < w4.heap.size := by omega); (try clear qa qb xa); (try clear xe); (try clear qc qd qe xb); (try clear xf); (try clear qf qg qh xc); (try clear xg); (try clear qi qj qk ql xd); (try clear xh); (try clear qm qn xi); (try clear zb); (try clear qo qq qr xj); (try clear zc); (try clear qt qu qv xk); (try clear zd); (try clear qw qx qy qz xl); (try clear ze); (try clear xm xn zf); (try clear jb); (try clear xo xp xq zg); (try clear jc); (try clear xr xt xu zh); (try clear jd); (try clear xv xw xy za zi); (try clear je)))
    refine bodyPost_ret (v := _) (by simp [results, Tryz.results9, go_sem, *]) rfl ⟨rfl, ?_⟩
    exact bel
   ·have T2 := fun W : World => Lib.hid (pairing_yes W h1 h2 hs)
    rw [pr_prog hs]
    cases hv : d2V (BK A B s1 s3) (BK A B x1 e1) (BK A B x2 e2) (BL A B s1 s3) (BH A B s1 s3) (BL A B x1 e1) (BH A B x1 e1) (BL A B x2 e2) (BH A B x2 e2)
    ·rw [hv] at T2
     rw [if_neg (by simp)]
     generalize d2A (BK A B s1 s3) (BK A B x1 e1) (BK A B x2 e2) (BL A B s1 s3) (BH A B s1 s3) (BL A B x1 e1) (BH A B x1 e1) (BL A B x2 e2) (BH A B x2 e2) = a at *
     generalize d2B (BK A B s1 s3) (BK A B x1 e1) (BK A B x2 e2) (BL A B s1 s3) (BH A B s1 s3) (BL A B x1 e1) (BH A B x1 e1) (BL A B x2 e2) (BH A B x2 e2) = b at *
     have T3 := fun W : World => Lib.hid (interval_any a b false W)
     rw [ivV_no (by simp)] at T3
     unfold ivZ
     clear h1 h2 hs hv
     have tok1 := trivial
     have tok2 := trivial
     have tok3 := trivial
     have tok4 := trivial
     go_enter Tryz.func9, Tryz.ntmps9
     go_wp2_with (first | (have _t := tok1; go_at_call 18; (with_reducible refine ((T1 _).out).mono ?_); rintro e w1 ⟨rfl, hb1⟩; clear tok1 _t; have hz1 := hb1.size; (try simp only [sA, sB, sC, sD] at hz1); (try (obtain ⟨kq, xa⟩ := cfAt hb1 (w.heap.size); have qa := kq 0; have qb := kq 1; clear kq; simp [go_sem, *] at qa qb xa)); (try have xe : w.heap.size < w1.heap.size := by omega); (try (obtain ⟨kq, xb⟩ := cfAt hb1 (w.heap.size + 1); have qc := kq 0; have qd := kq 1; have qe := kq 2; clear kq; simp [go_sem, *] at qc qd qe xb)); (try have xf : w.heap.size + 1 < w1.heap.size := by omega); (try (obtain ⟨kq, xc⟩ := cfAt hb1 (w.heap.size + 1 + 1); have qf := kq 0; have qg := kq 1; have qh := kq 2; clear kq; simp [go_sem, *] at qf qg qh xc)); (try have xg : w.heap.size + 1 + 1 < w1.heap.size := by omega); (try (obtain ⟨kq, xd⟩ := cfAt hb1 (w.heap.size + 1 + 1 + 1); have qi := kq 0; have qj := kq 1; have qk := kq 2; have ql := kq 3; clear kq; simp [go_sem, *] at qi qj qk ql xd)); (try have xh : w.heap.size + 1 + 1 + 1 < w1.heap.size := by omega)) | (have _t := tok2; go_at_call 18; (with_reducible refine ((TQ _).out).mono ?_); rintro e w2 ⟨rfl, hb2⟩; clear tok2 _t; have hz2 := hb2.size; (try simp only [sA, sB, sC, sD] at hz2); (try (obtain ⟨kq, xi⟩ := cfAt hb2 (w.heap.size); have qm := kq 0; have qn := kq 1; clear kq; simp [go_sem, *] at qm qn xi)); (try have zb : w.heap.size < w2.heap.size := by omega); (try (obtain ⟨kq, xj⟩ := cfAt hb2 (w.heap.size + 1); have qo := kq 0; have qq := kq 1; have qr := kq 2; clear kq; simp [go_sem, *] at qo qq qr xj)); (try have zc : w.heap.size + 1 < w2.heap.size := by omega); (try (obtain ⟨kq, xk⟩ := cfAt hb2 (w.heap.size + 1 + 1); have qt := kq 0; have qu := kq 1; have qv := kq 2; clear kq; simp [go_sem, *] at qt qu qv xk)); (try have zd : w.heap.size + 1 + 1 < w2.heap.size := by omega); (try (obtain ⟨kq, xl⟩ := cfAt hb2 (w.heap.size + 1 + 1 + 1); have qw := kq 0; have qx := kq 1; have qy := kq 2; have qz := kq 3; clear kq; simp [go_sem, *] at qw qx qy qz xl)); (try have ze : w.heap.size + 1 + 1 + 1 < w2.heap.size := by omega); (try clear qa qb xa); (try clear xe); (try clear qc qd qe xb); (try clear xf); (try clear qf qg qh xc); (try clear xg); (try clear qi qj qk ql xd); (try clear xh)) | (have _t := tok3; go_at_call 19; (with_reducible refine ((T2 _).out).mono ?_); rintro e w3 ⟨rfl, hb3⟩; clear tok3 _t; have hz3 := hb3.size; (try simp only [sA, sB, sC, sD] at hz3); (try (obtain ⟨kq, zf⟩ := cfAt hb3 (w.heap.size); have xm := kq 0; have xn := kq 1; clear kq; simp [go_sem, *] at xm xn zf)); (try have jb : w.heap.size < w3.heap.size := by omega); (try (obtain ⟨kq, zg⟩ := cfAt hb3 (w.heap.size + 1); have xo := kq 0; have xp := kq 1; have xq := kq 2; clear kq; simp [go_sem, *] at xo xp xq zg)); (try have jc : w.heap.size + 1 < w3.heap.size := by omega); (try (obtain ⟨kq, zh⟩ := cfAt hb3 (w.heap.size + 1 + 1); have xr := kq 0; have xt := kq 1; have xu := kq 2; clear kq; simp [go_sem, *] at xr xt xu zh)); (try have jd : w.heap.size + 1 + 1 < w3.heap.size := by omega); (try (obtain ⟨kq, zi⟩ := cfAt hb3 (w.heap.size + 1 + 1 + 1); have xv := kq 0; have xw := kq 1; have xy := kq 2; have za := kq 3; clear kq; simp [go_sem, *] at xv xw xy za zi)); (try have je : w.heap.size + 1 + 1 + 1 < w3.heap.size := by omega); (try clear qa qb xa); (try clear xe); (try clear qc qd qe xb); (try clear xf); (try clear qf qg qh xc); (try clear xg); (try clear qi qj qk ql xd); (try clear xh); (try clear qm qn xi); (try clear zb); (try clear qo qq qr xj); (try clear zc); (try clear qt qu qv xk); (try clear zd); (try clear qw qx qy qz xl); (try clear ze)) | (have _t := tok4; go_at_call 20; (with_reducible refine ((T3 _).out).mono ?_); rintro e w4 ⟨rfl, hb4⟩; clear tok4 _t; have hz4 := hb4.size; (try simp only [sA, sB, sC, sD] at hz4); (try (obtain ⟨kq, jf⟩ := cfAt hb4 (w.heap.size); have zm := kq 0; have zn := kq 1; clear kq; simp [go_sem, *] at zm zn jf)); (try have jk : w.heap.size < w4.heap.size := by omega); (try (obtain ⟨kq, jg⟩ := cfAt hb4 (w.heap.size + 1); have zo := kq 0; have zp := kq 1; have zq := kq 2; clear kq; simp [go_sem, *] at zo zp zq jg)); (try have jl : w.heap.size + 1 < w4.heap.size := by omega); (try (obtain ⟨kq, jh⟩ := cfAt hb4 (w.heap.size + 1 + 1); have zr := kq 0; have zt := kq 1; have zu := kq 2; clear kq; simp [go_sem, *] at zr zt zu jh)); (try have jm : w.heap.size + 1 + 1 < w4.heap.size := by omega); (try (obtain ⟨kq, ji⟩ := cfAt hb4 (w.heap.size + 1 + 1 + 1); have zv := kq 0; have zw := kq 1; have zx := kq 2; have zy := kq 3; clear kq; simp [go_sem, *] at zv zw zx zy ji)); (try have jn : w.heap.size + 1 + 1 + 1 < w4.heap.size := by omega); (try (obtain ⟨kq, ja⟩ := cfAt hb4 (w3.heap.size); have zj := kq 0; have zk := kq 1; clear kq; simp [go_sem, *] at zj zk ja)); (try have jj : w3.heap.size < w4.heap.size := by omega); (try clear qa qb xa); (try clear xe); (try clear qc qd qe xb); (try clear xf); (try clear qf qg qh xc); (try clear xg); (try clear qi qj qk ql xd); (try clear xh); (try clear qm qn xi); (try clear zb); (try clear qo qq qr xj); (try clear zc); (try clear qt qu qv xk); (try clear zd); (try clear qw qx qy qz xl); (try clear ze); (try clear xm xn zf); (try clear jb); (try clear xo xp xq zg); (try clear jc); (try clear xr xt xu zh); (try clear jd); (try clear xv xw xy za zi); (try clear je)))
     refine bodyPost_ret (v := _) (by simp [results, Tryz.results9, go_sem, *]) rfl ⟨rfl, ?_⟩
     exact bel
    ·have hva := d2_valid hv
     rw [hv] at T2
     rw [if_pos rfl]
     generalize d2A (BK A B s1 s3) (BK A B x1 e1) (BK A B x2 e2) (BL A B s1 s3) (BH A B s1 s3) (BL A B x1 e1) (BH A B x1 e1) (BL A B x2 e2) (BH A B x2 e2) = a at *
     generalize d2B (BK A B s1 s3) (BK A B x1 e1) (BK A B x2 e2) (BL A B s1 s3) (BH A B s1 s3) (BL A B x1 e1) (BH A B x1 e1) (BL A B x2 e2) (BH A B x2 e2) = b at *
     have T3 := fun W : World => Lib.hid (interval_any a b true W)
     rw [ivV_yes hva] at T3
     unfold mk5
     clear h1 h2 hs hv hva
     generalize mkN a 4096 = j1 at *
     generalize mkD a 4096 = j2 at *
     generalize mkN b 4096 = j3 at *
     generalize mkD b 4096 = j4 at *
     have tok1 := trivial
     have tok2 := trivial
     have tok3 := trivial
     have tok4 := trivial
     go_enter Tryz.func9, Tryz.ntmps9
     go_wp2_with (first | (have _t := tok1; go_at_call 18; (with_reducible refine ((T1 _).out).mono ?_); rintro e w1 ⟨rfl, hb1⟩; clear tok1 _t; have hz1 := hb1.size; (try simp only [sA, sB, sC, sD] at hz1); (try (obtain ⟨kq, xa⟩ := cfAt hb1 (w.heap.size); have qa := kq 0; have qb := kq 1; clear kq; simp [go_sem, *] at qa qb xa)); (try have xe : w.heap.size < w1.heap.size := by omega); (try (obtain ⟨kq, xb⟩ := cfAt hb1 (w.heap.size + 1); have qc := kq 0; have qd := kq 1; have qe := kq 2; clear kq; simp [go_sem, *] at qc qd qe xb)); (try have xf : w.heap.size + 1 < w1.heap.size := by omega); (try (obtain ⟨kq, xc⟩ := cfAt hb1 (w.heap.size + 1 + 1); have qf := kq 0; have qg := kq 1; have qh := kq 2; clear kq; simp [go_sem, *] at qf qg qh xc)); (try have xg : w.heap.size + 1 + 1 < w1.heap.size := by omega); (try (obtain ⟨kq, xd⟩ := cfAt hb1 (w.heap.size + 1 + 1 + 1); have qi := kq 0; have qj := kq 1; have qk := kq 2; have ql := kq 3; clear kq; simp [go_sem, *] at qi qj qk ql xd)); (try have xh : w.heap.size + 1 + 1 + 1 < w1.heap.size := by omega)) | (have _t := tok2; go_at_call 18; (with_reducible refine ((TQ _).out).mono ?_); rintro e w2 ⟨rfl, hb2⟩; clear tok2 _t; have hz2 := hb2.size; (try simp only [sA, sB, sC, sD] at hz2); (try (obtain ⟨kq, xi⟩ := cfAt hb2 (w.heap.size); have qm := kq 0; have qn := kq 1; clear kq; simp [go_sem, *] at qm qn xi)); (try have zb : w.heap.size < w2.heap.size := by omega); (try (obtain ⟨kq, xj⟩ := cfAt hb2 (w.heap.size + 1); have qo := kq 0; have qq := kq 1; have qr := kq 2; clear kq; simp [go_sem, *] at qo qq qr xj)); (try have zc : w.heap.size + 1 < w2.heap.size := by omega); (try (obtain ⟨kq, xk⟩ := cfAt hb2 (w.heap.size + 1 + 1); have qt := kq 0; have qu := kq 1; have qv := kq 2; clear kq; simp [go_sem, *] at qt qu qv xk)); (try have zd : w.heap.size + 1 + 1 < w2.heap.size := by omega); (try (obtain ⟨kq, xl⟩ := cfAt hb2 (w.heap.size + 1 + 1 + 1); have qw := kq 0; have qx := kq 1; have qy := kq 2; have qz := kq 3; clear kq; simp [go_sem, *] at qw qx qy qz xl)); (try have ze : w.heap.size + 1 + 1 + 1 < w2.heap.size := by omega); (try clear qa qb xa); (try clear xe); (try clear qc qd qe xb); (try clear xf); (try clear qf qg qh xc); (try clear xg); (try clear qi qj qk ql xd); (try clear xh)) | (have _t := tok3; go_at_call 19; (with_reducible refine ((T2 _).out).mono ?_); rintro e w3 ⟨rfl, hb3⟩; clear tok3 _t; have hz3 := hb3.size; (try simp only [sA, sB, sC, sD] at hz3); (try (obtain ⟨kq, zf⟩ := cfAt hb3 (w.heap.size); have xm := kq 0; have xn := kq 1; clear kq; simp [go_sem, *] at xm xn zf)); (try have jb : w.heap.size < w3.heap.size := by omega); (try (obtain ⟨kq, zg⟩ := cfAt hb3 (w.heap.size + 1); have xo := kq 0; have xp := kq 1; have xq := kq 2; clear kq; simp [go_sem, *] at xo xp xq zg)); (try have jc : w.heap.size + 1 < w3.heap.size := by omega); (try (obtain ⟨kq, zh⟩ := cfAt hb3 (w.heap.size + 1 + 1); have xr := kq 0; have xt := kq 1; have xu := kq 2; clear kq; simp [go_sem, *] at xr xt xu zh)); (try have jd : w.heap.size + 1 + 1 < w3.heap.size := by omega); (try (obtain ⟨kq, zi⟩ := cfAt hb3 (w.heap.size + 1 + 1 + 1); have xv := kq 0; have xw := kq 1; have xy := kq 2; have za := kq 3; clear kq; simp [go_sem, *] at xv xw xy za zi)); (try have je : w.heap.size + 1 + 1 + 1 < w3.heap.size := by omega); (try clear qa qb xa); (try clear xe); (try clear qc qd qe xb); (try clear xf); (try clear qf qg qh xc); (try clear xg); (try clear qi qj qk ql xd); (try clear xh); (try clear qm qn xi); (try clear zb); (try clear qo qq qr xj); (try clear zc); (try clear qt qu qv xk); (try clear zd); (try clear qw qx qy qz xl); (try clear ze)) | (have _t := tok4; go_at_call 20; (with_reducible refine ((T3 _).out).mono ?_); rintro e w4 ⟨rfl, hb4⟩; clear tok4 _t; have hz4 := hb4.size; (try simp only [sA, sB, sC, sD] at hz4); (try (obtain ⟨kq, jf⟩ := cfAt hb4 (w.heap.size); have zm := kq 0; have zn := kq 1; clear kq; simp [go_sem, *] at zm zn jf)); (try have jk : w.heap.size < w4.heap.size := by omega); (try (obtain ⟨kq, jg⟩ := cfAt hb4 (w.heap.size + 1); have zo := kq 0; have zp := kq 1; have zq := kq 2; clear kq; simp [go_sem, *] at zo zp zq jg)); (try have jl : w.heap.size + 1 < w4.heap.size := by omega); (try (obtain ⟨kq, jh⟩ := cfAt hb4 (w.heap.size + 1 + 1); have zr := kq 0; have zt := kq 1; have zu := kq 2; clear kq; simp [go_sem, *] at zr zt zu jh)); (try have jm : w.heap.size + 1 + 1 < w4.heap.size := by omega); (try (obtain ⟨kq, ji⟩ := cfAt hb4 (w.heap.size + 1 + 1 + 1); have zv := kq 0; have zw := kq 1; have zx := kq 2; have zy := kq 3; clear kq; simp [go_sem, *] at zv zw zx zy ji)); (try have jn : w.heap.size + 1 + 1 + 1 < w4.heap.size := by omega); (try (obtain ⟨kq, ja⟩ := cfAt hb4 (w3.heap.size); have zj := kq 0; have zk := kq 1; clear kq; simp [go_sem, *] at zj zk ja)); (try have jj : w3.heap.size < w4.heap.size := by omega); (try clear qa qb xa); (try clear xe); (try clear qc qd qe xb); (try clear xf); (try clear qf qg qh xc); (try clear xg); (try clear qi qj qk ql xd); (try clear xh); (try clear qm qn xi); (try clear zb); (try clear qo qq qr xj); (try clear zc); (try clear qt qu qv xk); (try clear zd); (try clear qw qx qy qz xl); (try clear ze); (try clear xm xn zf); (try clear jb); (try clear xo xp xq zg); (try clear jc); (try clear xr xt xu zh); (try clear jd); (try clear xv xw xy za zi); (try clear je)))
     refine bodyPost_ret (v := _) (by simp [results, Tryz.results9, go_sem, *]) rfl ⟨rfl, ?_⟩
     exact bel
end
section
open Go.RowKit
set_option linter.unusedVariables false
set_option maxHeartbeats 4000000
set_option maxRecDepth 20000
set_option linter.unusedSimpArgs false
attribute [local go_sem] openAt openUpon
theorem FnExactPairingOf_any (a0_0 : Int) (a0_1 : Int) (a1_0 : Int) (a1_1 : Int) (a1_2 : Int) (a2_0 : Int) (a2_1 : Int) (a2_2 : Int) (w : World) : Calls Tryz.prog 3 #[.agg #[.int .i64 a0_0, .int .i64 a0_1], .agg #[.int .i64 a1_0, .int .i64 a1_1, .int .i64 a1_2], .agg #[.int .i64 a2_0, .int .i64 a2_1, .int .i64 a2_2]] w fun e w' => e = .returned (.bool true) ∧ Below w.heap.size w w' := by
  have CS := fun W : World => Lib.hid (sPairingOf_any a0_0 a0_1 a1_0 a1_1 a1_2 a2_0 a2_1 a2_2 W)
  have CI := fun W : World => Lib.hid (PairingOf_any a0_0 a0_1 a1_0 a1_1 a1_2 a2_0 a2_1 a2_2 W)
  generalize prF a0_0 a0_1 a1_0 a1_1 a1_2 a2_0 a2_1 a2_2 = r at *; obtain ⟨r1, r2, r3, r4, r5⟩ := r
  have tok1 := trivial
  have tok2 := trivial
  have tok3 := trivial
  go_enter Tryz.func3, Tryz.ntmps3
  go_wp2_with fail
  refine wp_drawn_fill (n := 10) 7 19 29 #[.int .i64 0, .int .i64 0, .int .i64 0, .int .i64 0] (by kernel_rfl) (by kernel_rfl) (by kernel_rfl) ⟨_, rfl, rfl, rfl, fun _ _ => by simp [go_sem]⟩ ⟨_, rfl, rfl, rfl, rfl⟩ (by kernel_rfl) (by kernel_rfl) (by kernel_rfl) ?_
  apply Exists.intro
  refine ⟨?_, ?_⟩
  · intro W hW
    try (have qa := fun x => xcell hW (w.heap.size) (by go_size) x 0; simp [go_sem, *] at qa)
    try (have qb := fun x => xcell hW (w.heap.size) (by go_size) x 1; simp [go_sem, *] at qb)
    try (have qc := fun x => xcell hW (w.heap.size + 1) (by go_size) x 0; simp [go_sem, *] at qc)
    try (have qd := fun x => xcell hW (w.heap.size + 1) (by go_size) x 1; simp [go_sem, *] at qd)
    try (have qe := fun x => xcell hW (w.heap.size + 1) (by go_size) x 2; simp [go_sem, *] at qe)
    try (have qf := fun x => xcell hW (w.heap.size + 1 + 1) (by go_size) x 0; simp [go_sem, *] at qf)
    try (have qg := fun x => xcell hW (w.heap.size + 1 + 1) (by go_size) x 1; simp [go_sem, *] at qg)
    try (have qh := fun x => xcell hW (w.heap.size + 1 + 1) (by go_size) x 2; simp [go_sem, *] at qh)
    simp only [List.take_succ_cons, List.take_zero]
    repeat (go_big_quiet_step ((first | (go_at_call 7; exact draw_of _ (toCurve_any _ _ _)) | (go_at_call 8; exact draw_of _ (toPoint_any _ _ _ _)) | (go_at_call 6; exact draw_of _ ((CS _).out)))))
    exact wpQuiet_nil rfl
  refine ⟨_, rfl, rfl, by simp [Value.oneCell'], ?_⟩
  intro g1 w1 hb1 hg1 hk1
  try simp only [sA, sB, sC, sD] at hg1
  try have zw : w.heap.size < g1 := by omega
  try have zx : w.heap.size + 1 < g1 := by omega
  try have zy : w.heap.size + 1 + 1 < g1 := by omega
  simp only [List.drop_succ_cons, List.drop_zero, Act.put, List.setIfInBounds_toArray, List.set_cons_succ, List.set_cons_zero]
  have hz1 := hb1.size
  (try simp only [sA, sB, sC, sD] at hz1)
  (try (obtain ⟨kq, qr⟩ := cfAt hb1 (w.heap.size); have qi := kq 0; have qj := kq 1; clear kq; simp [go_sem, *] at qi qj qr))
  (try have xh : w.heap.size < w1.heap.size := by omega)
  (try (obtain ⟨kq, qt⟩ := cfAt hb1 (w.heap.size + 1); have qk := kq 0; have ql := kq 1; have qm := kq 2; clear kq; simp [go_sem, *] at qk ql qm qt))
  (try have xi : w.heap.size + 1 < w1.heap.size := by omega)
  (try (obtain ⟨kq, qu⟩ := cfAt hb1 (w.heap.size + 1 + 1); have qn := kq 0; have qo := kq 1; have qq := kq 2; clear kq; simp [go_sem, *] at qn qo qq qu))
  (try have xj : w.heap.size + 1 + 1 < w1.heap.size := by omega)
  have kg1 := blk_cell hk1
  have fg1 := blk_frozen hk1
  have lg1 := blk_lt hk1
  go_wp2_with fail
  refine wp_drawn_fill (n := 10) 9 29 29 #[.int .i64 0, .int .i64 0, .int .i64 0, .int .i64 0] (by kernel_rfl) (by kernel_rfl) (by kernel_rfl) ⟨_, rfl, rfl, rfl, fun _ _ => by simp [go_sem]⟩ ⟨_, rfl, rfl, rfl, rfl⟩ (by kernel_rfl) (by kernel_rfl) (by kernel_rfl) ?_
  apply Exists.intro
  refine ⟨?_, ?_⟩
  · intro W hW
    try (have qa := fun x => xcell hW (w.heap.size) (by go_size) x 0; simp [go_sem, *] at qa)
    try (have qb := fun x => xcell hW (w.heap.size) (by go_size) x 1; simp [go_sem, *] at qb)
    try (have qc := fun x => xcell hW (w.heap.size + 1) (by go_size) x 0; simp [go_sem, *] at qc)
    try (have qd := fun x => xcell hW (w.heap.size + 1) (by go_size) x 1; simp [go_sem, *] at qd)
    try (have qe := fun x => xcell hW (w.heap.size + 1) (by go_size) x 2; simp [go_sem, *] at qe)
    try (have qf := fun x => xcell hW (w.heap.size + 1 + 1) (by go_size) x 0; simp [go_sem, *] at qf)
    try (have qg := fun x => xcell hW (w.heap.size + 1 + 1) (by go_size) x 1; simp [go_sem, *] at qg)
    try (have qh := fun x => xcell hW (w.heap.size + 1 + 1) (by go_size) x 2; simp [go_sem, *] at qh)
    try (have xy := fun x => xcell hW (g1) (by go_size) x 0; simp [go_sem, *] at xy)
    try (have za := fun x => xcell hW (g1) (by go_size) x 1; simp [go_sem, *] at za)
    try (have zb := fun x => xcell hW (g1) (by go_size) x 2; simp [go_sem, *] at zb)
    try (have zc := fun x => xcell hW (g1) (by go_size) x 3; simp [go_sem, *] at zc)
    simp only [List.take_succ_cons, List.take_zero]
    repeat (go_big_quiet_step ((first | (go_at_call 7; exact draw_of _ (toCurve_any _ _ _)) | (go_at_call 8; exact draw_of _ (toPoint_any _ _ _ _)) | (go_at_call 9; exact draw_of _ ((CI _).out)))))
    exact wpQuiet_nil rfl
  refine ⟨_, rfl, rfl, by simp [Value.oneCell'], ?_⟩
  intro g2 w2 hb2 hg2 hk2
  try simp only [sA, sB, sC, sD] at hg2
  try have ja : w.heap.size < g2 := by omega
  try have jb : w.heap.size + 1 < g2 := by omega
  try have jc : w.heap.size + 1 + 1 < g2 := by omega
  try have jd : g1 < g2 := by omega
  simp only [List.drop_succ_cons, List.drop_zero, Act.put, List.setIfInBounds_toArray, List.set_cons_succ, List.set_cons_zero]
  have hz2 := hb2.size
  (try simp only [sA, sB, sC, sD] at hz2)
  (try (obtain ⟨kq, xk⟩ := cfAt hb2 (w.heap.size); have qv := kq 0; have qw := kq 1; clear kq; simp [go_sem, *] at qv qw xk))
  (try have zm : w.heap.size < w2.heap.size := by omega)
  (try (obtain ⟨kq, xl⟩ := cfAt hb2 (w.heap.size + 1); have qx := kq 0; have qy := kq 1; have qz := kq 2; clear kq; simp [go_sem, *] at qx qy qz xl))
  (try have zn : w.heap.size + 1 < w2.heap.size := by omega)
  (try (obtain ⟨kq, xm⟩ := cfAt hb2 (w.heap.size + 1 + 1); have xa := kq 0; have xb := kq 1; have xc := kq 2; clear kq; simp [go_sem, *] at xa xb xc xm))
  (try have zo : w.heap.size + 1 + 1 < w2.heap.size := by omega)
  (try (obtain ⟨kq, xw⟩ := cfAt hb2 (g1); have xd := kq 0; have xe := kq 1; have xf := kq 2; have xg := kq 3; clear kq; simp [go_sem, *] at xd xe xf xg xw))
  (try have zt : g1 < w2.heap.size := by omega)
  (try clear qi qj qr)
  (try clear xh)
  (try clear qk ql qm qt)
  (try clear xi)
  (try clear qn qo qq qu)
  (try clear xj)
  have kg2 := blk_cell hk2
  have fg2 := blk_frozen hk2
  have lg2 := blk_lt hk2
  go_wp2_with (first | (have _t := tok3; go_at_call 10; refine (eqInterval_same _ _ _ _ _).mono ?_; rintro e w3 ⟨rfl, hb3⟩; clear tok3 _t; have hz3 := hb3.size; (try simp only [sA, sB, sC, sD] at hz3); (try (obtain ⟨kq, zp⟩ := cfAt hb3 (w.heap.size); have xn := kq 0; have xo := kq 1; clear kq; simp [go_sem, *] at xn xo zp)); (try have je : w.heap.size < w3.heap.size := by omega); (try (obtain ⟨kq, zq⟩ := cfAt hb3 (w.heap.size + 1); have xp := kq 0; have xq := kq 1; have xr := kq 2; clear kq; simp [go_sem, *] at xp xq xr zq)); (try have jf : w.heap.size + 1 < w3.heap.size := by omega); (try (obtain ⟨kq, zr⟩ := cfAt hb3 (w.heap.size + 1 + 1); have xt := kq 0; have xu := kq 1; have xv := kq 2; clear kq; simp [go_sem, *] at xt xu xv zr)); (try have jg : w.heap.size + 1 + 1 < w3.heap.size := by omega); (try (obtain ⟨kq, zu⟩ := cfAt hb3 (g1); have zd := kq 0; have ze := kq 1; have zf := kq 2; have zg := kq 3; clear kq; simp [go_sem, *] at zd ze zf zg zu)); (try have jh : g1 < w3.heap.size := by omega); (try (obtain ⟨kq, zv⟩ := cfAt hb3 (g2); have zh := kq 0; have zi := kq 1; have zj := kq 2; have zk := kq 3; clear kq; simp [go_sem, *] at zh zi zj zk zv)); (try have ji : g2 < w3.heap.size := by omega); (try clear qi qj qr); (try clear xh); (try clear qk ql qm qt); (try clear xi); (try clear qn qo qq qu); (try clear xj); (try clear qv qw xk); (try clear zm); (try clear qx qy qz xl); (try clear zn); (try clear xa xb xc xm); (try clear zo); (try clear xd xe xf xg xw); (try clear zt)))
  go_ret
  refine ⟨rfl, ?_⟩
  exact bel
end
end Go.Proofs.YtnkmgpmehkholaaGreat
