/- Lemmas and contracts of functions. No condition. -/
import Derived.Test.YtnemnkbcbokafaaGreatPk17
import Derived.Test.YtnemnkbcbokafaaGreatPk19
import Derived.Test.YtnemnkbcbokafaaGreatPk51
namespace Go.Proofs.YtnemnkbcbokafaaGreat
open Go.RowKit
set_option linter.unusedVariables false
set_option maxHeartbeats 0
set_option maxRecDepth 20000
set_option linter.unusedSimpArgs false

theorem FnIsogeny_any {s1 s2 : Option Addr} {m1 c1 m2 c2 : Nat} (w : World) (h1 : ByW w s1 m1) (h2 : ByW w s2 m2) : Calls Tryz.prog 3 #[.slice s1 m1 c1, .slice s2 m2 c2] w fun e w' => e = .returned (.bool true) ∧ Below w.heap.size w w' := by
 by_cases hbig : (1048576 : Int) < wrap64 ((m1 : Int) + m2)
 ·go_enter Tryz.func3, Tryz.ntmps3
  go_wp2_with fail
  go_ret
  refine ⟨rfl, ?_⟩
  exact bel
 have tok1 := trivial
 have tok2 := trivial
 have tok3 := trivial
 have tok4 := trivial
 have tok5 := trivial
 have tok6 := trivial
 have tok7 := trivial
 have tok8 := trivial
 have tok9 := trivial
 have tok10 := trivial
 have tok11 := trivial
 have tok12 := trivial
 have tok13 := trivial
 have tok14 := trivial
 have tok15 := trivial
 have tok16 := trivial
 have tok17 := trivial
 have tok18 := trivial
 have tok19 := trivial
 have tok20 := trivial
 have tok21 := trivial
 have tok22 := trivial
 have tok23 := trivial
 have tok24 := trivial
 have tok25 := trivial
 have tok26 := trivial
 have tok27 := trivial
 have tok28 := trivial
 go_enter Tryz.func3, Tryz.ntmps3
 go_upto_region 4 with (first | (have _t := tok1; go_at_call 4; refine (DrawImageOf_any (h1.below bel)).mono ?_; rintro e w1 ⟨ta, tb, nx, dx, ny, dy, rfl, hb1⟩; clear tok1 _t; have hz1 := hb1.size; (try simp only [sA, sB, sC, sD] at hz1)))
 obtain ⟨p1, p2, z1, z2, ok, is, told, m, n, five, ra, rb, mv, seven, R3, R5, R13, R15, R17, R19, R21, R23, R25, F1, F2, F3⟩ := is_set1 ta tb nx dx ny dy
 have T3 := fun W : World => Lib.hid (R3 W)
 have T5 := fun W : World => Lib.hid (R5 W)
 have T13 := fun W : World => Lib.hid (R13 W)
 have T15 := fun W : World => Lib.hid (R15 W)
 have T17 := fun W : World => Lib.hid (R17 W)
 have T19 := fun W : World => Lib.hid (R19 W)
 have T21 := fun W : World => Lib.hid (R21 W)
 have T23 := fun W : World => Lib.hid (R23 W)
 have T25 := fun W : World => Lib.hid (R25 W)
 clear R3 R5 R13 R15 R17 R19 R21 R23 R25
 replace F1 := Lib.hid F1
 replace F2 := Lib.hid F2
 replace F3 := Lib.hid F3
 refine chk (fun W => Below w.heap.size w W ∧ W.heap[w1.heap.size]? = some (.cells #[.int .i64 ta, .int .i64 tb] 24 (0, 0)) ∧ W.heap[w1.heap.size + 1]? = some (.cells #[.int .i64 nx, .int .i64 dx] 26 (0, 0)) ∧ W.heap[w1.heap.size + 1 + 1]? = some (.cells #[.int .i64 ny, .int .i64 dy] 26 (0, 0))) (by refine ⟨?_, ?_, ?_, ?_⟩ <;> (exact ck)) ?_
 rintro w2 ⟨hB2, po, pp, pq⟩
 obtain ⟨Cf, Cg, f_T_2, l_T_2⟩ := bk2 po
 replace po := Lib.hid po
 obtain ⟨Ch, Ci, f_X_2, l_X_2⟩ := bk2 pp
 replace pp := Lib.hid pp
 obtain ⟨Cj, Ck, f_Y_2, l_Y_2⟩ := bk2 pq
 replace pq := Lib.hid pq
 clear hb1 h1 hbig
 go_upto_region 5 with (first | (have _t := tok3; go_at_call 5; (with_reducible refine ((T3 _).out).mono ?_); rintro e w3 ⟨rfl, hb3⟩; clear tok3 _t; have hz3 := hb3.size; (try simp only [sA, sB, sC, sD] at hz3)))
 have pr := (hb3.block (w1.heap.size) (blk_lt' po.out)).trans po.out
 clear Cf Cg f_T_2 po
 obtain ⟨Cl, Cm, f_T_3, l_T_3⟩ := bk2 pr
 replace pr := Lib.hid pr
 have pt := (hb3.block (w1.heap.size + 1) (blk_lt' pp.out)).trans pp.out
 clear Ch Ci f_X_2 pp
 obtain ⟨Cn, Co, f_X_3, l_X_3⟩ := bk2 pt
 replace pt := Lib.hid pt
 have pu := (hb3.block (w1.heap.size + 1 + 1) (blk_lt' pq.out)).trans pq.out
 clear Cj Ck f_Y_2 pq
 obtain ⟨Cp, Cq, f_Y_3, l_Y_3⟩ := bk2 pu
 replace pu := Lib.hid pu
 have hB3 : Below w.heap.size w w3 := below_via hb3 (by assumption) (by first | exact hB2.size | go_size)
 clear hb3 T3
 replace pr := pr.out
 replace pt := pt.out
 replace pu := pu.out
 refine chk (fun W => Below w.heap.size w W ∧ W.heap[w1.heap.size]? = some (.cells #[.int .i64 ta, .int .i64 tb] 24 (0, 0)) ∧ W.heap[w1.heap.size + 1]? = some (.cells #[.int .i64 nx, .int .i64 dx] 26 (0, 0)) ∧ W.heap[w1.heap.size + 1 + 1]? = some (.cells #[.int .i64 ny, .int .i64 dy] 26 (0, 0)) ∧ W.heap[w3.heap.size]? = some (.cells #[.int .i64 p1, .int .i64 p2] 26 (0, 0)) ∧ W.heap[w3.heap.size + 1]? = some (.cells #[.int .i64 z1, .int .i64 z2] 26 (0, 0))) (by refine ⟨?_, ?_, ?_, ?_, ?_, ?_⟩ <;> (exact ck)) ?_
 clear Cl Cm f_T_3 pr
 clear Cn Co f_X_3 pt
 clear Cp Cq f_Y_3 pu
 clear hB3
 rintro w4 ⟨hB4, pv, pw, px, dc, dd⟩
 obtain ⟨Cr, Cs, f_T_4, l_T_4⟩ := bk2 pv
 replace pv := Lib.hid pv
 obtain ⟨Ct, Cu, f_X_4, l_X_4⟩ := bk2 pw
 replace pw := Lib.hid pw
 obtain ⟨Cv, Cw, f_Y_4, l_Y_4⟩ := bk2 px
 replace px := Lib.hid px
 obtain ⟨Cx, Cy, f_U_4, l_U_4⟩ := bk2 dc
 replace dc := Lib.hid dc
 obtain ⟨Cz, Na, f_V_4, l_V_4⟩ := bk2 dd
 replace dd := Lib.hid dd
 go_upto_region 6 with (first | (have _t := tok5; go_at_call 6; (with_reducible refine ((T5 _).out).mono ?_); rintro e w5 ⟨rfl, hb5⟩; clear tok5 _t; have hz5 := hb5.size; (try simp only [sA, sB, sC, sD] at hz5)))
 have de := (hb5.block (w1.heap.size) (blk_lt' pv.out)).trans pv.out
 clear Cr Cs f_T_4 pv
 obtain ⟨Nb, Nc, f_T_5, l_T_5⟩ := bk2 de
 replace de := Lib.hid de
 have df := (hb5.block (w1.heap.size + 1) (blk_lt' pw.out)).trans pw.out
 clear Ct Cu f_X_4 pw
 obtain ⟨Nd, Nf, f_X_5, l_X_5⟩ := bk2 df
 replace df := Lib.hid df
 have dg := (hb5.block (w1.heap.size + 1 + 1) (blk_lt' px.out)).trans px.out
 clear Cv Cw f_Y_4 px
 obtain ⟨Ng, Nh, f_Y_5, l_Y_5⟩ := bk2 dg
 replace dg := Lib.hid dg
 have dh := (hb5.block (w3.heap.size) (blk_lt' dc.out)).trans dc.out
 clear Cx Cy f_U_4 dc
 obtain ⟨Ni, Nj, f_U_5, l_U_5⟩ := bk2 dh
 replace dh := Lib.hid dh
 have di := (hb5.block (w3.heap.size + 1) (blk_lt' dd.out)).trans dd.out
 clear Cz Na f_V_4 dd
 obtain ⟨Nk, Nl, f_V_5, l_V_5⟩ := bk2 di
 replace di := Lib.hid di
 have hB5 : Below w.heap.size w w5 := below_via hb5 (by assumption) (by first | exact hB4.size | go_size)
 clear hb5 T5
 replace de := de.out
 replace df := df.out
 replace dg := dg.out
 replace dh := dh.out
 replace di := di.out
 refine chk (fun W => Below w.heap.size w W ∧ W.heap[w1.heap.size]? = some (.cells #[.int .i64 ta, .int .i64 tb] 24 (0, 0)) ∧ W.heap[w1.heap.size + 1]? = some (.cells #[.int .i64 nx, .int .i64 dx] 26 (0, 0)) ∧ W.heap[w1.heap.size + 1 + 1]? = some (.cells #[.int .i64 ny, .int .i64 dy] 26 (0, 0)) ∧ W.heap[w3.heap.size]? = some (.cells #[.int .i64 p1, .int .i64 p2] 26 (0, 0)) ∧ W.heap[w3.heap.size + 1]? = some (.cells #[.int .i64 z1, .int .i64 z2] 26 (0, 0)) ∧ W.heap[w5.heap.size]? = some (.cells #[.int .i64 p1, .int .i64 p2] 26 (0, 0)) ∧ W.heap[w5.heap.size + 1]? = some (.cells #[.int .i64 z1, .int .i64 z2] 26 (0, 0))) (by refine ⟨?_, ?_, ?_, ?_, ?_, ?_, ?_, ?_⟩ <;> (exact ck)) ?_
 clear Nb Nc f_T_5 de
 clear Nd Nf f_X_5 df
 clear Ng Nh f_Y_5 dg
 clear Ni Nj f_U_5 dh
 clear Nk Nl f_V_5 di
 clear hB5
 rintro w6 ⟨hB6, dj, dk, dl, dm, dn, dp, dq⟩
 obtain ⟨Nm, Nn, f_T_6, l_T_6⟩ := bk2 dj
 replace dj := Lib.hid dj
 obtain ⟨Np, Nq, f_X_6, l_X_6⟩ := bk2 dk
 replace dk := Lib.hid dk
 obtain ⟨Nr, Ns, f_Y_6, l_Y_6⟩ := bk2 dl
 replace dl := Lib.hid dl
 obtain ⟨Nt, Nu, f_U_6, l_U_6⟩ := bk2 dm
 replace dm := Lib.hid dm
 obtain ⟨Nv, Nw, f_V_6, l_V_6⟩ := bk2 dn
 replace dn := Lib.hid dn
 obtain ⟨Nx, Ny, f_P_6, l_P_6⟩ := bk2 dp
 replace dp := Lib.hid dp
 obtain ⟨Nz, Ma, f_Z_6, l_Z_6⟩ := bk2 dq
 replace dq := Lib.hid dq
 go_upto_region 7 with (first | (have _t := tok7; go_at_call 7; refine (DrawBackImage_any (h2.below bel)).mono ?_; rintro e w7 ⟨da, db, aa, ab, ba, bb, rfl, hb7⟩; clear tok7 _t; have hz7 := hb7.size; (try simp only [sA, sB, sC, sD] at hz7)))
 have dr := (hb7.block (w1.heap.size) (blk_lt' dj.out)).trans dj.out
 clear Nm Nn f_T_6 dj
 obtain ⟨Mb, Mc, f_T_7, l_T_7⟩ := bk2 dr
 replace dr := Lib.hid dr
 have dt := (hb7.block (w1.heap.size + 1) (blk_lt' dk.out)).trans dk.out
 clear Np Nq f_X_6 dk
 obtain ⟨Md, Me, f_X_7, l_X_7⟩ := bk2 dt
 replace dt := Lib.hid dt
 have du := (hb7.block (w1.heap.size + 1 + 1) (blk_lt' dl.out)).trans dl.out
 clear Nr Ns f_Y_6 dl
 obtain ⟨Mf, Mg, f_Y_7, l_Y_7⟩ := bk2 du
 replace du := Lib.hid du
 have dv := (hb7.block (w3.heap.size) (blk_lt' dm.out)).trans dm.out
 clear Nt Nu f_U_6 dm
 obtain ⟨Mh, Mi, f_U_7, l_U_7⟩ := bk2 dv
 replace dv := Lib.hid dv
 have dw := (hb7.block (w3.heap.size + 1) (blk_lt' dn.out)).trans dn.out
 clear Nv Nw f_V_6 dn
 obtain ⟨Mj, Mk, f_V_7, l_V_7⟩ := bk2 dw
 replace dw := Lib.hid dw
 have fc := (hb7.block (w5.heap.size) (blk_lt' dp.out)).trans dp.out
 clear Nx Ny f_P_6 dp
 obtain ⟨Ml, Mm, f_P_7, l_P_7⟩ := bk2 fc
 replace fc := Lib.hid fc
 have fe := (hb7.block (w5.heap.size + 1) (blk_lt' dq.out)).trans dq.out
 clear Nz Ma f_Z_6 dq
 obtain ⟨Mn, Mo, f_Z_7, l_Z_7⟩ := bk2 fe
 replace fe := Lib.hid fe
 have hB7 : Below w.heap.size w w7 := below_via hb7 (by assumption) (by first | exact hB6.size | go_size)
 clear hb7
 obtain ⟨ga, gb, ja, jb, one, R9, R11, F4⟩ := is_set2 da db aa ab ba bb
 have T9 := fun W : World => Lib.hid (R9 W)
 have T11 := fun W : World => Lib.hid (R11 W)
 clear R9 R11
 replace F4 := Lib.hid F4
 replace dr := dr.out
 replace dt := dt.out
 replace du := du.out
 replace dv := dv.out
 replace dw := dw.out
 replace fc := fc.out
 replace fe := fe.out
 refine chk (fun W => Below w.heap.size w W ∧ W.heap[w1.heap.size]? = some (.cells #[.int .i64 ta, .int .i64 tb] 24 (0, 0)) ∧ W.heap[w1.heap.size + 1]? = some (.cells #[.int .i64 nx, .int .i64 dx] 26 (0, 0)) ∧ W.heap[w1.heap.size + 1 + 1]? = some (.cells #[.int .i64 ny, .int .i64 dy] 26 (0, 0)) ∧ W.heap[w3.heap.size]? = some (.cells #[.int .i64 p1, .int .i64 p2] 26 (0, 0)) ∧ W.heap[w3.heap.size + 1]? = some (.cells #[.int .i64 z1, .int .i64 z2] 26 (0, 0)) ∧ W.heap[w5.heap.size]? = some (.cells #[.int .i64 p1, .int .i64 p2] 26 (0, 0)) ∧ W.heap[w5.heap.size + 1]? = some (.cells #[.int .i64 z1, .int .i64 z2] 26 (0, 0)) ∧ W.heap[w7.heap.size]? = some (.cells #[.int .i64 da, .int .i64 db] 24 (0, 0)) ∧ W.heap[w7.heap.size + 1]? = some (.cells #[.int .i64 aa, .int .i64 ab] 26 (0, 0)) ∧ W.heap[w7.heap.size + 1 + 1]? = some (.cells #[.int .i64 ba, .int .i64 bb] 26 (0, 0))) (by refine ⟨?_, ?_, ?_, ?_, ?_, ?_, ?_, ?_, ?_, ?_, ?_⟩ <;> (exact ck)) ?_
 clear Mb Mc f_T_7 dr
 clear Md Me f_X_7 dt
 clear Mf Mg f_Y_7 du
 clear Mh Mi f_U_7 dv
 clear Mj Mk f_V_7 dw
 clear Ml Mm f_P_7 fc
 clear Mn Mo f_Z_7 fe
 clear hB7
 rintro w8 ⟨hB8, ff, fg, fi, fj, fm, fo, fp, fv, fw, fz⟩
 obtain ⟨Mp, Mq, f_T_8, l_T_8⟩ := bk2 ff
 replace ff := Lib.hid ff
 obtain ⟨Mr, Ms, f_X_8, l_X_8⟩ := bk2 fg
 replace fg := Lib.hid fg
 obtain ⟨Mt, Mu, f_Y_8, l_Y_8⟩ := bk2 fi
 replace fi := Lib.hid fi
 obtain ⟨Mv, Mw, f_U_8, l_U_8⟩ := bk2 fj
 replace fj := Lib.hid fj
 obtain ⟨Mx, My, f_V_8, l_V_8⟩ := bk2 fm
 replace fm := Lib.hid fm
 obtain ⟨Mz, La, f_P_8, l_P_8⟩ := bk2 fo
 replace fo := Lib.hid fo
 obtain ⟨Lb, Lc, f_Z_8, l_Z_8⟩ := bk2 fp
 replace fp := Lib.hid fp
 obtain ⟨Ld, Le, f_D_8, l_D_8⟩ := bk2 fv
 replace fv := Lib.hid fv
 obtain ⟨Lf, Lg, f_A_8, l_A_8⟩ := bk2 fw
 replace fw := Lib.hid fw
 obtain ⟨Lh, Li, f_B_8, l_B_8⟩ := bk2 fz
 replace fz := Lib.hid fz
 clear h2
 go_upto_region 8 with (first | (have _t := tok9; go_at_call 8; (with_reducible refine ((T9 _).out).mono ?_); rintro e w9 ⟨rfl, hb9⟩; clear tok9 _t; have hz9 := hb9.size; (try simp only [sA, sB, sC, sD] at hz9)))
 have bc := (hb9.block (w1.heap.size) (blk_lt' ff.out)).trans ff.out
 clear Mp Mq f_T_8 ff
 obtain ⟨Lj, Lk, f_T_9, l_T_9⟩ := bk2 bc
 replace bc := Lib.hid bc
 have bd := (hb9.block (w1.heap.size + 1) (blk_lt' fg.out)).trans fg.out
 clear Mr Ms f_X_8 fg
 obtain ⟨Ll, Lm, f_X_9, l_X_9⟩ := bk2 bd
 replace bd := Lib.hid bd
 have bf := (hb9.block (w1.heap.size + 1 + 1) (blk_lt' fi.out)).trans fi.out
 clear Mt Mu f_Y_8 fi
 obtain ⟨Ln, Lo, f_Y_9, l_Y_9⟩ := bk2 bf
 replace bf := Lib.hid bf
 have bg := (hb9.block (w3.heap.size) (blk_lt' fj.out)).trans fj.out
 clear Mv Mw f_U_8 fj
 obtain ⟨Lp, Lq, f_U_9, l_U_9⟩ := bk2 bg
 replace bg := Lib.hid bg
 have bh := (hb9.block (w3.heap.size + 1) (blk_lt' fm.out)).trans fm.out
 clear Mx My f_V_8 fm
 obtain ⟨Lr, Ls, f_V_9, l_V_9⟩ := bk2 bh
 replace bh := Lib.hid bh
 have bi := (hb9.block (w5.heap.size) (blk_lt' fo.out)).trans fo.out
 clear Mz La f_P_8 fo
 obtain ⟨Lt, Lu, f_P_9, l_P_9⟩ := bk2 bi
 replace bi := Lib.hid bi
 have bj := (hb9.block (w5.heap.size + 1) (blk_lt' fp.out)).trans fp.out
 clear Lb Lc f_Z_8 fp
 obtain ⟨Lv, Lw, f_Z_9, l_Z_9⟩ := bk2 bj
 replace bj := Lib.hid bj
 have bk := (hb9.block (w7.heap.size) (blk_lt' fv.out)).trans fv.out
 clear Ld Le f_D_8 fv
 obtain ⟨Lx, Ly, f_D_9, l_D_9⟩ := bk2 bk
 replace bk := Lib.hid bk
 have bm := (hb9.block (w7.heap.size + 1) (blk_lt' fw.out)).trans fw.out
 clear Lf Lg f_A_8 fw
 obtain ⟨Lz, Ra, f_A_9, l_A_9⟩ := bk2 bm
 replace bm := Lib.hid bm
 have bn := (hb9.block (w7.heap.size + 1 + 1) (blk_lt' fz.out)).trans fz.out
 clear Lh Li f_B_8 fz
 obtain ⟨Rb, Rc, f_B_9, l_B_9⟩ := bk2 bn
 replace bn := Lib.hid bn
 have hB9 : Below w.heap.size w w9 := below_via hb9 (by assumption) (by first | exact hB8.size | go_size)
 clear hb9 T9
 replace bc := bc.out
 replace bd := bd.out
 replace bf := bf.out
 replace bg := bg.out
 replace bh := bh.out
 replace bi := bi.out
 replace bj := bj.out
 replace bk := bk.out
 replace bm := bm.out
 replace bn := bn.out
 refine chk (fun W => Below w.heap.size w W ∧ W.heap[w1.heap.size]? = some (.cells #[.int .i64 ta, .int .i64 tb] 24 (0, 0)) ∧ W.heap[w1.heap.size + 1]? = some (.cells #[.int .i64 nx, .int .i64 dx] 26 (0, 0)) ∧ W.heap[w1.heap.size + 1 + 1]? = some (.cells #[.int .i64 ny, .int .i64 dy] 26 (0, 0)) ∧ W.heap[w3.heap.size]? = some (.cells #[.int .i64 p1, .int .i64 p2] 26 (0, 0)) ∧ W.heap[w3.heap.size + 1]? = some (.cells #[.int .i64 z1, .int .i64 z2] 26 (0, 0)) ∧ W.heap[w5.heap.size]? = some (.cells #[.int .i64 p1, .int .i64 p2] 26 (0, 0)) ∧ W.heap[w5.heap.size + 1]? = some (.cells #[.int .i64 z1, .int .i64 z2] 26 (0, 0)) ∧ W.heap[w7.heap.size]? = some (.cells #[.int .i64 da, .int .i64 db] 24 (0, 0)) ∧ W.heap[w7.heap.size + 1]? = some (.cells #[.int .i64 aa, .int .i64 ab] 26 (0, 0)) ∧ W.heap[w7.heap.size + 1 + 1]? = some (.cells #[.int .i64 ba, .int .i64 bb] 26 (0, 0)) ∧ W.heap[w9.heap.size]? = some (.cells #[.int .i64 ga, .int .i64 gb] 26 (0, 0)) ∧ W.heap[w9.heap.size + 1]? = some (.cells #[.int .i64 ja, .int .i64 jb] 26 (0, 0))) (by refine ⟨?_, ?_, ?_, ?_, ?_, ?_, ?_, ?_, ?_, ?_, ?_, ?_, ?_⟩ <;> (exact ck)) ?_
 clear Lj Lk f_T_9 bc
 clear Ll Lm f_X_9 bd
 clear Ln Lo f_Y_9 bf
 clear Lp Lq f_U_9 bg
 clear Lr Ls f_V_9 bh
 clear Lt Lu f_P_9 bi
 clear Lv Lw f_Z_9 bj
 clear Lx Ly f_D_9 bk
 clear Lz Ra f_A_9 bm
 clear Rb Rc f_B_9 bn
 clear hB9
 rintro w10 ⟨hB10, qi, qj, qk, ql, qm, qp, qq, qr, qt, qu, qw, qz⟩
 obtain ⟨cg, ch, Rd, l_T_10⟩ := bk2 qi
 replace qi := Lib.hid qi
 obtain ⟨ci, cj, Re, l_X_10⟩ := bk2 qj
 replace qj := Lib.hid qj
 obtain ⟨cl, cn, Rf, l_Y_10⟩ := bk2 qk
 replace qk := Lib.hid qk
 obtain ⟨co, cp, Rg, l_U_10⟩ := bk2 ql
 replace ql := Lib.hid ql
 obtain ⟨cq, cr, Rh, l_V_10⟩ := bk2 qm
 replace qm := Lib.hid qm
 obtain ⟨ct, cu, Ri, l_P_10⟩ := bk2 qp
 replace qp := Lib.hid qp
 obtain ⟨cw, cy, Rj, l_Z_10⟩ := bk2 qq
 replace qq := Lib.hid qq
 obtain ⟨cz, na, Rk, l_D_10⟩ := bk2 qr
 replace qr := Lib.hid qr
 obtain ⟨nc, nd, Rl, l_A_10⟩ := bk2 qt
 replace qt := Lib.hid qt
 obtain ⟨nf, ng, Rm, l_B_10⟩ := bk2 qu
 replace qu := Lib.hid qu
 obtain ⟨nh, ni, Rn, l_G_10⟩ := bk2 qw
 replace qw := Lib.hid qw
 obtain ⟨nj, nk, Ro, l_H_10⟩ := bk2 qz
 replace qz := Lib.hid qz
 go_upto_region 9 with (first | (have _t := tok11; go_at_call 9; (with_reducible refine ((T11 _).out).mono ?_); rintro e w11 ⟨rfl, hb11⟩; clear tok11 _t; have hz11 := hb11.size; (try simp only [sA, sB, sC, sD] at hz11)))
 have xa := (hb11.block (w1.heap.size) (blk_lt' qi.out)).trans qi.out
 clear cg ch Rd qi
 obtain ⟨nl, nm, Rp, l_T_11⟩ := bk2 xa
 replace xa := Lib.hid xa
 have xb := (hb11.block (w1.heap.size + 1) (blk_lt' qj.out)).trans qj.out
 clear ci cj Re qj
 obtain ⟨np, nr, Rq, l_X_11⟩ := bk2 xb
 replace xb := Lib.hid xb
 have xc := (hb11.block (w1.heap.size + 1 + 1) (blk_lt' qk.out)).trans qk.out
 clear cl cn Rf qk
 obtain ⟨ns, nt, Rr, l_Y_11⟩ := bk2 xc
 replace xc := Lib.hid xc
 have xe := (hb11.block (w3.heap.size) (blk_lt' ql.out)).trans ql.out
 clear co cp Rg ql
 obtain ⟨nu, nz, Rs, l_U_11⟩ := bk2 xe
 replace xe := Lib.hid xe
 have xf := (hb11.block (w3.heap.size + 1) (blk_lt' qm.out)).trans qm.out
 clear cq cr Rh qm
 obtain ⟨ma, mb, Rt, l_V_11⟩ := bk2 xf
 replace xf := Lib.hid xf
 have xg := (hb11.block (w5.heap.size) (blk_lt' qp.out)).trans qp.out
 clear ct cu Ri qp
 obtain ⟨mc, me, Ru, l_P_11⟩ := bk2 xg
 replace xg := Lib.hid xg
 have xh := (hb11.block (w5.heap.size + 1) (blk_lt' qq.out)).trans qq.out
 clear cw cy Rj qq
 obtain ⟨mf, mg, Rv, l_Z_11⟩ := bk2 xh
 replace xh := Lib.hid xh
 have xi := (hb11.block (w7.heap.size) (blk_lt' qr.out)).trans qr.out
 clear cz na Rk qr
 obtain ⟨mh, mi, Rw, l_D_11⟩ := bk2 xi
 replace xi := Lib.hid xi
 have xj := (hb11.block (w7.heap.size + 1) (blk_lt' qt.out)).trans qt.out
 clear nc nd Rl qt
 obtain ⟨mj, ml, Rx, l_A_11⟩ := bk2 xj
 replace xj := Lib.hid xj
 have xk := (hb11.block (w7.heap.size + 1 + 1) (blk_lt' qu.out)).trans qu.out
 clear nf ng Rm qu
 obtain ⟨mn, mo, Ry, l_B_11⟩ := bk2 xk
 replace xk := Lib.hid xk
 have xl := (hb11.block (w9.heap.size) (blk_lt' qw.out)).trans qw.out
 clear nh ni Rn qw
 obtain ⟨mp, mq, Rz, l_G_11⟩ := bk2 xl
 replace xl := Lib.hid xl
 have xm := (hb11.block (w9.heap.size + 1) (blk_lt' qz.out)).trans qz.out
 clear nj nk Ro qz
 obtain ⟨mr, ms, Sa, l_H_11⟩ := bk2 xm
 replace xm := Lib.hid xm
 have hB11 : Below w.heap.size w w11 := below_via hb11 (by assumption) (by first | exact hB10.size | go_size)
 clear hb11 T11
 replace xa := xa.out
 replace xb := xb.out
 replace xc := xc.out
 replace xe := xe.out
 replace xf := xf.out
 replace xg := xg.out
 replace xh := xh.out
 replace xi := xi.out
 replace xj := xj.out
 replace xk := xk.out
 replace xl := xl.out
 replace xm := xm.out
 refine chk (fun W => Below w.heap.size w W ∧ W.heap[w1.heap.size]? = some (.cells #[.int .i64 ta, .int .i64 tb] 24 (0, 0)) ∧ W.heap[w1.heap.size + 1]? = some (.cells #[.int .i64 nx, .int .i64 dx] 26 (0, 0)) ∧ W.heap[w1.heap.size + 1 + 1]? = some (.cells #[.int .i64 ny, .int .i64 dy] 26 (0, 0)) ∧ W.heap[w3.heap.size]? = some (.cells #[.int .i64 p1, .int .i64 p2] 26 (0, 0)) ∧ W.heap[w3.heap.size + 1]? = some (.cells #[.int .i64 z1, .int .i64 z2] 26 (0, 0)) ∧ W.heap[w5.heap.size]? = some (.cells #[.int .i64 p1, .int .i64 p2] 26 (0, 0)) ∧ W.heap[w5.heap.size + 1]? = some (.cells #[.int .i64 z1, .int .i64 z2] 26 (0, 0)) ∧ W.heap[w7.heap.size]? = some (.cells #[.int .i64 da, .int .i64 db] 24 (0, 0)) ∧ W.heap[w7.heap.size + 1]? = some (.cells #[.int .i64 aa, .int .i64 ab] 26 (0, 0)) ∧ W.heap[w7.heap.size + 1 + 1]? = some (.cells #[.int .i64 ba, .int .i64 bb] 26 (0, 0)) ∧ W.heap[w9.heap.size]? = some (.cells #[.int .i64 ga, .int .i64 gb] 26 (0, 0)) ∧ W.heap[w9.heap.size + 1]? = some (.cells #[.int .i64 ja, .int .i64 jb] 26 (0, 0)) ∧ W.heap[w11.heap.size]? = some (.cells #[.int .i64 ga, .int .i64 gb] 26 (0, 0)) ∧ W.heap[w11.heap.size + 1]? = some (.cells #[.int .i64 ja, .int .i64 jb] 26 (0, 0))) (by refine ⟨?_, ?_, ?_, ?_, ?_, ?_, ?_, ?_, ?_, ?_, ?_, ?_, ?_, ?_, ?_⟩ <;> (exact ck)) ?_
 clear nl nm Rp xa
 clear np nr Rq xb
 clear ns nt Rr xc
 clear nu nz Rs xe
 clear ma mb Rt xf
 clear mc me Ru xg
 clear mf mg Rv xh
 clear mh mi Rw xi
 clear mj ml Rx xj
 clear mn mo Ry xk
 clear mp mq Rz xl
 clear mr ms Sa xm
 clear hB11
 rintro w12 ⟨hB12, xp, xq, xr, xt, xu, xv, xw, xx, xy, xz, za, zb, zc, zd⟩
 obtain ⟨mt, mu, Sb, l_T_12⟩ := bk2 xp
 replace xp := Lib.hid xp
 obtain ⟨mw, mx, Sc, l_X_12⟩ := bk2 xq
 replace xq := Lib.hid xq
 obtain ⟨my, mz, Sd, l_Y_12⟩ := bk2 xr
 replace xr := Lib.hid xr
 obtain ⟨Qa, Qb, Se, l_U_12⟩ := bk2 xt
 replace xt := Lib.hid xt
 obtain ⟨Qc, Qd, Sf, l_V_12⟩ := bk2 xu
 replace xu := Lib.hid xu
 obtain ⟨Qe, Qf, Sg, l_P_12⟩ := bk2 xv
 replace xv := Lib.hid xv
 obtain ⟨Qg, Qh, Sh, l_Z_12⟩ := bk2 xw
 replace xw := Lib.hid xw
 obtain ⟨Qi, Qj, Si, l_D_12⟩ := bk2 xx
 replace xx := Lib.hid xx
 obtain ⟨Qk, Ql, Sj, l_A_12⟩ := bk2 xy
 replace xy := Lib.hid xy
 obtain ⟨Qm, Qn, Sk, l_B_12⟩ := bk2 xz
 replace xz := Lib.hid xz
 obtain ⟨Qo, Qp, Sl, l_G_12⟩ := bk2 za
 replace za := Lib.hid za
 obtain ⟨Qq, Qr, Sm, l_H_12⟩ := bk2 zb
 replace zb := Lib.hid zb
 obtain ⟨Qs, Qt, Sn, l_I_12⟩ := bk2 zc
 replace zc := Lib.hid zc
 obtain ⟨Qu, Qv, So, l_J_12⟩ := bk2 zd
 replace zd := Lib.hid zd
 go_upto_region 10 with (first | (have _t := tok13; go_at_call 10; (with_reducible refine ((T13 _).out).mono ?_); rintro e w13 ⟨rfl, hb13⟩; clear tok13 _t; have hz13 := hb13.size; (try simp only [sA, sB, sC, sD] at hz13)))
 have ze := (hb13.block (w1.heap.size) (blk_lt' xp.out)).trans xp.out
 clear mt mu Sb xp
 obtain ⟨Qw, Qx, Sp, l_T_13⟩ := bk2 ze
 replace ze := Lib.hid ze
 have zf := (hb13.block (w1.heap.size + 1) (blk_lt' xq.out)).trans xq.out
 clear mw mx Sc xq
 obtain ⟨Qy, Qz, Sq, l_X_13⟩ := bk2 zf
 replace zf := Lib.hid zf
 have zg := (hb13.block (w1.heap.size + 1 + 1) (blk_lt' xr.out)).trans xr.out
 clear my mz Sd xr
 obtain ⟨Xa, Xb, Ss, l_Y_13⟩ := bk2 zg
 replace zg := Lib.hid zg
 have zh := (hb13.block (w3.heap.size) (blk_lt' xt.out)).trans xt.out
 clear Qa Qb Se xt
 obtain ⟨Xc, Xd, Su, l_U_13⟩ := bk2 zh
 replace zh := Lib.hid zh
 have zi := (hb13.block (w3.heap.size + 1) (blk_lt' xu.out)).trans xu.out
 clear Qc Qd Sf xu
 obtain ⟨Xe, Xf, Sv, l_V_13⟩ := bk2 zi
 replace zi := Lib.hid zi
 have zj := (hb13.block (w5.heap.size) (blk_lt' xv.out)).trans xv.out
 clear Qe Qf Sg xv
 obtain ⟨Xg, Xh, Sw, l_P_13⟩ := bk2 zj
 replace zj := Lib.hid zj
 have zk := (hb13.block (w5.heap.size + 1) (blk_lt' xw.out)).trans xw.out
 clear Qg Qh Sh xw
 obtain ⟨Xi, Xj, Sy, l_Z_13⟩ := bk2 zk
 replace zk := Lib.hid zk
 have zl := (hb13.block (w7.heap.size) (blk_lt' xx.out)).trans xx.out
 clear Qi Qj Si xx
 obtain ⟨Xk, Xl, Sz, l_D_13⟩ := bk2 zl
 replace zl := Lib.hid zl
 have zm := (hb13.block (w7.heap.size + 1) (blk_lt' xy.out)).trans xy.out
 clear Qk Ql Sj xy
 obtain ⟨Xm, Xn, Ta, l_A_13⟩ := bk2 zm
 replace zm := Lib.hid zm
 have zn := (hb13.block (w7.heap.size + 1 + 1) (blk_lt' xz.out)).trans xz.out
 clear Qm Qn Sk xz
 obtain ⟨Xo, Xp, Tb, l_B_13⟩ := bk2 zn
 replace zn := Lib.hid zn
 have zo := (hb13.block (w9.heap.size) (blk_lt' za.out)).trans za.out
 clear Qo Qp Sl za
 obtain ⟨Xq, Xr, Tc, l_G_13⟩ := bk2 zo
 replace zo := Lib.hid zo
 have zp := (hb13.block (w9.heap.size + 1) (blk_lt' zb.out)).trans zb.out
 clear Qq Qr Sm zb
 obtain ⟨Xs, Xt, Td, l_H_13⟩ := bk2 zp
 replace zp := Lib.hid zp
 have zq := (hb13.block (w11.heap.size) (blk_lt' zc.out)).trans zc.out
 clear Qs Qt Sn zc
 obtain ⟨Xu, Xv, Te, l_I_13⟩ := bk2 zq
 replace zq := Lib.hid zq
 have zr := (hb13.block (w11.heap.size + 1) (blk_lt' zd.out)).trans zd.out
 clear Qu Qv So zd
 obtain ⟨Xw, Xx, Tf, l_J_13⟩ := bk2 zr
 replace zr := Lib.hid zr
 have hB13 : Below w.heap.size w w13 := below_via hb13 (by assumption) (by first | exact hB12.size | go_size)
 clear hb13 T13
 replace ze := ze.out
 replace zf := zf.out
 replace zg := zg.out
 replace zh := zh.out
 replace zi := zi.out
 replace zj := zj.out
 replace zk := zk.out
 replace zl := zl.out
 replace zm := zm.out
 replace zn := zn.out
 replace zo := zo.out
 replace zp := zp.out
 replace zq := zq.out
 replace zr := zr.out
 refine chk (fun W => Below w.heap.size w W ∧ W.heap[w1.heap.size]? = some (.cells #[.int .i64 ta, .int .i64 tb] 24 (0, 0)) ∧ W.heap[w1.heap.size + 1]? = some (.cells #[.int .i64 nx, .int .i64 dx] 26 (0, 0)) ∧ W.heap[w1.heap.size + 1 + 1]? = some (.cells #[.int .i64 ny, .int .i64 dy] 26 (0, 0)) ∧ W.heap[w3.heap.size]? = some (.cells #[.int .i64 p1, .int .i64 p2] 26 (0, 0)) ∧ W.heap[w3.heap.size + 1]? = some (.cells #[.int .i64 z1, .int .i64 z2] 26 (0, 0)) ∧ W.heap[w5.heap.size]? = some (.cells #[.int .i64 p1, .int .i64 p2] 26 (0, 0)) ∧ W.heap[w5.heap.size + 1]? = some (.cells #[.int .i64 z1, .int .i64 z2] 26 (0, 0)) ∧ W.heap[w7.heap.size]? = some (.cells #[.int .i64 da, .int .i64 db] 24 (0, 0)) ∧ W.heap[w7.heap.size + 1]? = some (.cells #[.int .i64 aa, .int .i64 ab] 26 (0, 0)) ∧ W.heap[w7.heap.size + 1 + 1]? = some (.cells #[.int .i64 ba, .int .i64 bb] 26 (0, 0)) ∧ W.heap[w9.heap.size]? = some (.cells #[.int .i64 ga, .int .i64 gb] 26 (0, 0)) ∧ W.heap[w9.heap.size + 1]? = some (.cells #[.int .i64 ja, .int .i64 jb] 26 (0, 0)) ∧ W.heap[w11.heap.size]? = some (.cells #[.int .i64 ga, .int .i64 gb] 26 (0, 0)) ∧ W.heap[w11.heap.size + 1]? = some (.cells #[.int .i64 ja, .int .i64 jb] 26 (0, 0))) (by refine ⟨?_, ?_, ?_, ?_, ?_, ?_, ?_, ?_, ?_, ?_, ?_, ?_, ?_, ?_, ?_⟩ <;> (exact ck)) ?_
 clear Qw Qx Sp ze
 clear Qy Qz Sq zf
 clear Xa Xb Ss zg
 clear Xc Xd Su zh
 clear Xe Xf Sv zi
 clear Xg Xh Sw zj
 clear Xi Xj Sy zk
 clear Xk Xl Sz zl
 clear Xm Xn Ta zm
 clear Xo Xp Tb zn
 clear Xq Xr Tc zo
 clear Xs Xt Td zp
 clear Xu Xv Te zq
 clear Xw Xx Tf zr
 clear hB13
 rintro w14 ⟨hB14, zt, zu, zv, zw, zx, zy, zz, jc, jd, je, jf, jg, jh, ji⟩
 obtain ⟨Xy, Xz, Tg, l_T_14⟩ := bk2 zt
 replace zt := Lib.hid zt
 obtain ⟨Za, Zb, Th, l_X_14⟩ := bk2 zu
 replace zu := Lib.hid zu
 obtain ⟨Zc, Zd, Ti, l_Y_14⟩ := bk2 zv
 replace zv := Lib.hid zv
 obtain ⟨Ze, Zf, Tj, l_U_14⟩ := bk2 zw
 replace zw := Lib.hid zw
 obtain ⟨Zg, Zh, Tk, l_V_14⟩ := bk2 zx
 replace zx := Lib.hid zx
 obtain ⟨Zi, Zj, Tl, l_P_14⟩ := bk2 zy
 replace zy := Lib.hid zy
 obtain ⟨Zk, Zl, Tm, l_Z_14⟩ := bk2 zz
 replace zz := Lib.hid zz
 obtain ⟨Zm, Zn, Tn, l_D_14⟩ := bk2 jc
 replace jc := Lib.hid jc
 obtain ⟨Zo, Zp, To, l_A_14⟩ := bk2 jd
 replace jd := Lib.hid jd
 obtain ⟨Zq, Zr, Tp, l_B_14⟩ := bk2 je
 replace je := Lib.hid je
 obtain ⟨Zs, Zt, Tq, l_G_14⟩ := bk2 jf
 replace jf := Lib.hid jf
 obtain ⟨Zu, Zv, Tr, l_H_14⟩ := bk2 jg
 replace jg := Lib.hid jg
 obtain ⟨Zw, Zx, Ts, l_I_14⟩ := bk2 jh
 replace jh := Lib.hid jh
 obtain ⟨Zy, Zz, Tt, l_J_14⟩ := bk2 ji
 replace ji := Lib.hid ji
 go_upto_region 11 with (first | (have _t := tok15; go_at_call 11; (with_reducible refine ((T15 _).out).mono ?_); rintro e w15 ⟨rfl, hb15⟩; clear tok15 _t; have hz15 := hb15.size; (try simp only [sA, sB, sC, sD] at hz15)))
 have jj := (hb15.block (w1.heap.size) (blk_lt' zt.out)).trans zt.out
 clear Xy Xz Tg zt
 obtain ⟨Ja, Jb, Tu, l_T_15⟩ := bk2 jj
 replace jj := Lib.hid jj
 have jk := (hb15.block (w1.heap.size + 1) (blk_lt' zu.out)).trans zu.out
 clear Za Zb Th zu
 obtain ⟨Jc, Jd, Tv, l_X_15⟩ := bk2 jk
 replace jk := Lib.hid jk
 have jl := (hb15.block (w1.heap.size + 1 + 1) (blk_lt' zv.out)).trans zv.out
 clear Zc Zd Ti zv
 obtain ⟨Je, Jf, Tw, l_Y_15⟩ := bk2 jl
 replace jl := Lib.hid jl
 have jm := (hb15.block (w3.heap.size) (blk_lt' zw.out)).trans zw.out
 clear Ze Zf Tj zw
 obtain ⟨Jg, Jh, Tx, l_U_15⟩ := bk2 jm
 replace jm := Lib.hid jm
 have jn := (hb15.block (w3.heap.size + 1) (blk_lt' zx.out)).trans zx.out
 clear Zg Zh Tk zx
 obtain ⟨Ji, Jj, Ty, l_V_15⟩ := bk2 jn
 replace jn := Lib.hid jn
 have jo := (hb15.block (w5.heap.size) (blk_lt' zy.out)).trans zy.out
 clear Zi Zj Tl zy
 obtain ⟨Jk, Jl, Tz, l_P_15⟩ := bk2 jo
 replace jo := Lib.hid jo
 have jp := (hb15.block (w5.heap.size + 1) (blk_lt' zz.out)).trans zz.out
 clear Zk Zl Tm zz
 obtain ⟨Jm, Jn, f_Z_15, l_Z_15⟩ := bk2 jp
 replace jp := Lib.hid jp
 have jq := (hb15.block (w7.heap.size) (blk_lt' jc.out)).trans jc.out
 clear Zm Zn Tn jc
 obtain ⟨Jo, Jp, f_D_15, l_D_15⟩ := bk2 jq
 replace jq := Lib.hid jq
 have jr := (hb15.block (w7.heap.size + 1) (blk_lt' jd.out)).trans jd.out
 clear Zo Zp To jd
 obtain ⟨Jq, Jr, f_A_15, l_A_15⟩ := bk2 jr
 replace jr := Lib.hid jr
 have jt := (hb15.block (w7.heap.size + 1 + 1) (blk_lt' je.out)).trans je.out
 clear Zq Zr Tp je
 obtain ⟨Js, Jt, f_B_15, l_B_15⟩ := bk2 jt
 replace jt := Lib.hid jt
 have ju := (hb15.block (w9.heap.size) (blk_lt' jf.out)).trans jf.out
 clear Zs Zt Tq jf
 obtain ⟨Ju, Jv, f_G_15, l_G_15⟩ := bk2 ju
 replace ju := Lib.hid ju
 have jv := (hb15.block (w9.heap.size + 1) (blk_lt' jg.out)).trans jg.out
 clear Zu Zv Tr jg
 obtain ⟨Jw, Jx, f_H_15, l_H_15⟩ := bk2 jv
 replace jv := Lib.hid jv
 have jw := (hb15.block (w11.heap.size) (blk_lt' jh.out)).trans jh.out
 clear Zw Zx Ts jh
 obtain ⟨Jy, Jz, f_I_15, l_I_15⟩ := bk2 jw
 replace jw := Lib.hid jw
 have jx := (hb15.block (w11.heap.size + 1) (blk_lt' ji.out)).trans ji.out
 clear Zy Zz Tt ji
 obtain ⟨Ya, Yb, f_J_15, l_J_15⟩ := bk2 jx
 replace jx := Lib.hid jx
 have hB15 : Below w.heap.size w w15 := below_via hb15 (by assumption) (by first | exact hB14.size | go_size)
 clear hb15 T15
 replace jj := jj.out
 replace jk := jk.out
 replace jl := jl.out
 replace jm := jm.out
 replace jn := jn.out
 replace jo := jo.out
 replace jp := jp.out
 replace jq := jq.out
 replace jr := jr.out
 replace jt := jt.out
 replace ju := ju.out
 replace jv := jv.out
 replace jw := jw.out
 replace jx := jx.out
 refine chk (fun W => Below w.heap.size w W ∧ W.heap[w1.heap.size]? = some (.cells #[.int .i64 ta, .int .i64 tb] 24 (0, 0)) ∧ W.heap[w1.heap.size + 1]? = some (.cells #[.int .i64 nx, .int .i64 dx] 26 (0, 0)) ∧ W.heap[w1.heap.size + 1 + 1]? = some (.cells #[.int .i64 ny, .int .i64 dy] 26 (0, 0)) ∧ W.heap[w3.heap.size]? = some (.cells #[.int .i64 p1, .int .i64 p2] 26 (0, 0)) ∧ W.heap[w3.heap.size + 1]? = some (.cells #[.int .i64 z1, .int .i64 z2] 26 (0, 0)) ∧ W.heap[w5.heap.size]? = some (.cells #[.int .i64 p1, .int .i64 p2] 26 (0, 0)) ∧ W.heap[w5.heap.size + 1]? = some (.cells #[.int .i64 z1, .int .i64 z2] 26 (0, 0)) ∧ W.heap[w7.heap.size]? = some (.cells #[.int .i64 da, .int .i64 db] 24 (0, 0)) ∧ W.heap[w7.heap.size + 1]? = some (.cells #[.int .i64 aa, .int .i64 ab] 26 (0, 0)) ∧ W.heap[w7.heap.size + 1 + 1]? = some (.cells #[.int .i64 ba, .int .i64 bb] 26 (0, 0)) ∧ W.heap[w9.heap.size]? = some (.cells #[.int .i64 ga, .int .i64 gb] 26 (0, 0)) ∧ W.heap[w9.heap.size + 1]? = some (.cells #[.int .i64 ja, .int .i64 jb] 26 (0, 0)) ∧ W.heap[w11.heap.size]? = some (.cells #[.int .i64 ga, .int .i64 gb] 26 (0, 0)) ∧ W.heap[w11.heap.size + 1]? = some (.cells #[.int .i64 ja, .int .i64 jb] 26 (0, 0))) (by refine ⟨?_, ?_, ?_, ?_, ?_, ?_, ?_, ?_, ?_, ?_, ?_, ?_, ?_, ?_, ?_⟩ <;> (exact ck)) ?_
 clear Ja Jb Tu jj
 clear Jc Jd Tv jk
 clear Je Jf Tw jl
 clear Jg Jh Tx jm
 clear Ji Jj Ty jn
 clear Jk Jl Tz jo
 clear Jm Jn f_Z_15 jp
 clear Jo Jp f_D_15 jq
 clear Jq Jr f_A_15 jr
 clear Js Jt f_B_15 jt
 clear Ju Jv f_G_15 ju
 clear Jw Jx f_H_15 jv
 clear Jy Jz f_I_15 jw
 clear Ya Yb f_J_15 jx
 clear hB15
 rintro w16 ⟨hB16, jy, jz, ya, yb, yc, ye, yf, yg, yh, yi, yj, yk, yl, ym⟩
 obtain ⟨Yc, Yd, f_T_16, l_T_16⟩ := bk2 jy
 replace jy := Lib.hid jy
 obtain ⟨Ye, Yf, f_X_16, l_X_16⟩ := bk2 jz
 replace jz := Lib.hid jz
 obtain ⟨Yg, Yh, f_Y_16, l_Y_16⟩ := bk2 ya
 replace ya := Lib.hid ya
 obtain ⟨Yi, Yj, f_U_16, l_U_16⟩ := bk2 yb
 replace yb := Lib.hid yb
 obtain ⟨Yk, Yl, f_V_16, l_V_16⟩ := bk2 yc
 replace yc := Lib.hid yc
 obtain ⟨Ym, Yn, f_P_16, l_P_16⟩ := bk2 ye
 replace ye := Lib.hid ye
 obtain ⟨Yo, Yp, f_Z_16, l_Z_16⟩ := bk2 yf
 replace yf := Lib.hid yf
 obtain ⟨Yq, Yr, f_D_16, l_D_16⟩ := bk2 yg
 replace yg := Lib.hid yg
 obtain ⟨Ys, Yt, f_A_16, l_A_16⟩ := bk2 yh
 replace yh := Lib.hid yh
 obtain ⟨Yu, Yv, f_B_16, l_B_16⟩ := bk2 yi
 replace yi := Lib.hid yi
 obtain ⟨Yw, Yx, f_G_16, l_G_16⟩ := bk2 yj
 replace yj := Lib.hid yj
 obtain ⟨Yy, Yz, f_H_16, l_H_16⟩ := bk2 yk
 replace yk := Lib.hid yk
 obtain ⟨Va, Vb, f_I_16, l_I_16⟩ := bk2 yl
 replace yl := Lib.hid yl
 obtain ⟨Vc, Ve, f_J_16, l_J_16⟩ := bk2 ym
 replace ym := Lib.hid ym
 go_upto_region 12 with (first | (have _t := tok17; go_at_call 12; (with_reducible refine ((T17 _).out).mono ?_); rintro e w17 ⟨rfl, hb17⟩; clear tok17 _t; have hz17 := hb17.size; (try simp only [sA, sB, sC, sD] at hz17)))
 have yp := (hb17.block (w1.heap.size) (blk_lt' jy.out)).trans jy.out
 clear Yc Yd f_T_16 jy
 obtain ⟨Vf, Vg, f_T_17, l_T_17⟩ := bk2 yp
 replace yp := Lib.hid yp
 have yq := (hb17.block (w1.heap.size + 1) (blk_lt' jz.out)).trans jz.out
 clear Ye Yf f_X_16 jz
 obtain ⟨Vh, Vi, f_X_17, l_X_17⟩ := bk2 yq
 replace yq := Lib.hid yq
 have yr := (hb17.block (w1.heap.size + 1 + 1) (blk_lt' ya.out)).trans ya.out
 clear Yg Yh f_Y_16 ya
 obtain ⟨Vj, Vk, f_Y_17, l_Y_17⟩ := bk2 yr
 replace yr := Lib.hid yr
 have yt := (hb17.block (w3.heap.size) (blk_lt' yb.out)).trans yb.out
 clear Yi Yj f_U_16 yb
 obtain ⟨Vl, Vm, f_U_17, l_U_17⟩ := bk2 yt
 replace yt := Lib.hid yt
 have yu := (hb17.block (w3.heap.size + 1) (blk_lt' yc.out)).trans yc.out
 clear Yk Yl f_V_16 yc
 obtain ⟨Vo, Vp, f_V_17, l_V_17⟩ := bk2 yu
 replace yu := Lib.hid yu
 have yv := (hb17.block (w5.heap.size) (blk_lt' ye.out)).trans ye.out
 clear Ym Yn f_P_16 ye
 obtain ⟨Vq, Vr, f_P_17, l_P_17⟩ := bk2 yv
 replace yv := Lib.hid yv
 have yw := (hb17.block (w5.heap.size + 1) (blk_lt' yf.out)).trans yf.out
 clear Yo Yp f_Z_16 yf
 obtain ⟨Vs, Vt, f_Z_17, l_Z_17⟩ := bk2 yw
 replace yw := Lib.hid yw
 have yx := (hb17.block (w7.heap.size) (blk_lt' yg.out)).trans yg.out
 clear Yq Yr f_D_16 yg
 obtain ⟨Vu, Vv, f_D_17, l_D_17⟩ := bk2 yx
 replace yx := Lib.hid yx
 have yz := (hb17.block (w7.heap.size + 1) (blk_lt' yh.out)).trans yh.out
 clear Ys Yt f_A_16 yh
 obtain ⟨Vw, Vx, f_A_17, l_A_17⟩ := bk2 yz
 replace yz := Lib.hid yz
 have va := (hb17.block (w7.heap.size + 1 + 1) (blk_lt' yi.out)).trans yi.out
 clear Yu Yv f_B_16 yi
 obtain ⟨Vy, Vz, f_B_17, l_B_17⟩ := bk2 va
 replace va := Lib.hid va
 have vb := (hb17.block (w9.heap.size) (blk_lt' yj.out)).trans yj.out
 clear Yw Yx f_G_16 yj
 obtain ⟨Wa, Wb, f_G_17, l_G_17⟩ := bk2 vb
 replace vb := Lib.hid vb
 have vc := (hb17.block (w9.heap.size + 1) (blk_lt' yk.out)).trans yk.out
 clear Yy Yz f_H_16 yk
 obtain ⟨Wc, We, f_H_17, l_H_17⟩ := bk2 vc
 replace vc := Lib.hid vc
 have vd := (hb17.block (w11.heap.size) (blk_lt' yl.out)).trans yl.out
 clear Va Vb f_I_16 yl
 obtain ⟨Wf, Wg, f_I_17, l_I_17⟩ := bk2 vd
 replace vd := Lib.hid vd
 have vf := (hb17.block (w11.heap.size + 1) (blk_lt' ym.out)).trans ym.out
 clear Vc Ve f_J_16 ym
 obtain ⟨Wh, Wi, f_J_17, l_J_17⟩ := bk2 vf
 replace vf := Lib.hid vf
 have hB17 : Below w.heap.size w w17 := below_via hb17 (by assumption) (by first | exact hB16.size | go_size)
 clear hb17 T17
 replace yp := yp.out
 replace yq := yq.out
 replace yr := yr.out
 replace yt := yt.out
 replace yu := yu.out
 replace yv := yv.out
 replace yw := yw.out
 replace yx := yx.out
 replace yz := yz.out
 replace va := va.out
 replace vb := vb.out
 replace vc := vc.out
 replace vd := vd.out
 replace vf := vf.out
 refine chk (fun W => Below w.heap.size w W ∧ W.heap[w1.heap.size]? = some (.cells #[.int .i64 ta, .int .i64 tb] 24 (0, 0)) ∧ W.heap[w1.heap.size + 1]? = some (.cells #[.int .i64 nx, .int .i64 dx] 26 (0, 0)) ∧ W.heap[w1.heap.size + 1 + 1]? = some (.cells #[.int .i64 ny, .int .i64 dy] 26 (0, 0)) ∧ W.heap[w3.heap.size]? = some (.cells #[.int .i64 p1, .int .i64 p2] 26 (0, 0)) ∧ W.heap[w3.heap.size + 1]? = some (.cells #[.int .i64 z1, .int .i64 z2] 26 (0, 0)) ∧ W.heap[w5.heap.size]? = some (.cells #[.int .i64 p1, .int .i64 p2] 26 (0, 0)) ∧ W.heap[w5.heap.size + 1]? = some (.cells #[.int .i64 z1, .int .i64 z2] 26 (0, 0)) ∧ W.heap[w7.heap.size]? = some (.cells #[.int .i64 da, .int .i64 db] 24 (0, 0)) ∧ W.heap[w7.heap.size + 1]? = some (.cells #[.int .i64 aa, .int .i64 ab] 26 (0, 0)) ∧ W.heap[w7.heap.size + 1 + 1]? = some (.cells #[.int .i64 ba, .int .i64 bb] 26 (0, 0)) ∧ W.heap[w9.heap.size]? = some (.cells #[.int .i64 ga, .int .i64 gb] 26 (0, 0)) ∧ W.heap[w9.heap.size + 1]? = some (.cells #[.int .i64 ja, .int .i64 jb] 26 (0, 0)) ∧ W.heap[w11.heap.size]? = some (.cells #[.int .i64 ga, .int .i64 gb] 26 (0, 0)) ∧ W.heap[w11.heap.size + 1]? = some (.cells #[.int .i64 ja, .int .i64 jb] 26 (0, 0))) (by refine ⟨?_, ?_, ?_, ?_, ?_, ?_, ?_, ?_, ?_, ?_, ?_, ?_, ?_, ?_, ?_⟩ <;> (exact ck)) ?_
 clear Vf Vg f_T_17 yp
 clear Vh Vi f_X_17 yq
 clear Vj Vk f_Y_17 yr
 clear Vl Vm f_U_17 yt
 clear Vo Vp f_V_17 yu
 clear Vq Vr f_P_17 yv
 clear Vs Vt f_Z_17 yw
 clear Vu Vv f_D_17 yx
 clear Vw Vx f_A_17 yz
 clear Vy Vz f_B_17 va
 clear Wa Wb f_G_17 vb
 clear Wc We f_H_17 vc
 clear Wf Wg f_I_17 vd
 clear Wh Wi f_J_17 vf
 clear hB17
 rintro w18 ⟨hB18, vg, vh, vi, vj, vk, vl, vm, vn, vo, vp, vq, vr, vt, vu⟩
 obtain ⟨Wj, Wk, f_T_18, l_T_18⟩ := bk2 vg
 replace vg := Lib.hid vg
 obtain ⟨Wl, Wm, f_X_18, l_X_18⟩ := bk2 vh
 replace vh := Lib.hid vh
 obtain ⟨Wo, Wp, f_Y_18, l_Y_18⟩ := bk2 vi
 replace vi := Lib.hid vi
 obtain ⟨Wq, Wr, f_U_18, l_U_18⟩ := bk2 vj
 replace vj := Lib.hid vj
 obtain ⟨Ws, Wt, f_V_18, l_V_18⟩ := bk2 vk
 replace vk := Lib.hid vk
 obtain ⟨Wu, Wv, f_P_18, l_P_18⟩ := bk2 vl
 replace vl := Lib.hid vl
 obtain ⟨Ww, Wy, f_Z_18, l_Z_18⟩ := bk2 vm
 replace vm := Lib.hid vm
 obtain ⟨Wz, Ua, f_D_18, l_D_18⟩ := bk2 vn
 replace vn := Lib.hid vn
 obtain ⟨Ub, Uc, f_A_18, l_A_18⟩ := bk2 vo
 replace vo := Lib.hid vo
 obtain ⟨Ud, Ue, f_B_18, l_B_18⟩ := bk2 vp
 replace vp := Lib.hid vp
 obtain ⟨Uf, Ug, f_G_18, l_G_18⟩ := bk2 vq
 replace vq := Lib.hid vq
 obtain ⟨Uh, Ui, f_H_18, l_H_18⟩ := bk2 vr
 replace vr := Lib.hid vr
 obtain ⟨Uj, Uk, f_I_18, l_I_18⟩ := bk2 vt
 replace vt := Lib.hid vt
 obtain ⟨Ul, Um, f_J_18, l_J_18⟩ := bk2 vu
 replace vu := Lib.hid vu
 go_upto_region 13 with (first | (have _t := tok19; go_at_call 13; (with_reducible refine ((T19 _).out).mono ?_); rintro e w19 ⟨rfl, hb19⟩; clear tok19 _t; have hz19 := hb19.size; (try simp only [sA, sB, sC, sD] at hz19)))
 have vv := (hb19.block (w1.heap.size) (blk_lt' vg.out)).trans vg.out
 clear Wj Wk f_T_18 vg
 obtain ⟨Un, Uo, f_T_19, l_T_19⟩ := bk2 vv
 replace vv := Lib.hid vv
 have vw := (hb19.block (w1.heap.size + 1) (blk_lt' vh.out)).trans vh.out
 clear Wl Wm f_X_18 vh
 obtain ⟨Up, Uq, f_X_19, l_X_19⟩ := bk2 vw
 replace vw := Lib.hid vw
 have vx := (hb19.block (w1.heap.size + 1 + 1) (blk_lt' vi.out)).trans vi.out
 clear Wo Wp f_Y_18 vi
 obtain ⟨Ur, Us, f_Y_19, l_Y_19⟩ := bk2 vx
 replace vx := Lib.hid vx
 have vy := (hb19.block (w3.heap.size) (blk_lt' vj.out)).trans vj.out
 clear Wq Wr f_U_18 vj
 obtain ⟨Ut, Uu, f_U_19, l_U_19⟩ := bk2 vy
 replace vy := Lib.hid vy
 have vz := (hb19.block (w3.heap.size + 1) (blk_lt' vk.out)).trans vk.out
 clear Ws Wt f_V_18 vk
 obtain ⟨Uv, Uw, f_V_19, l_V_19⟩ := bk2 vz
 replace vz := Lib.hid vz
 have wd := (hb19.block (w5.heap.size) (blk_lt' vl.out)).trans vl.out
 clear Wu Wv f_P_18 vl
 obtain ⟨Ux, Uy, f_P_19, l_P_19⟩ := bk2 wd
 replace wd := Lib.hid wd
 have wg := (hb19.block (w5.heap.size + 1) (blk_lt' vm.out)).trans vm.out
 clear Ww Wy f_Z_18 vm
 obtain ⟨Uz, Ga, f_Z_19, l_Z_19⟩ := bk2 wg
 replace wg := Lib.hid wg
 have wi := (hb19.block (w7.heap.size) (blk_lt' vn.out)).trans vn.out
 clear Wz Ua f_D_18 vn
 obtain ⟨Gb, Gc, f_D_19, l_D_19⟩ := bk2 wi
 replace wi := Lib.hid wi
 have wj := (hb19.block (w7.heap.size + 1) (blk_lt' vo.out)).trans vo.out
 clear Ub Uc f_A_18 vo
 obtain ⟨Gd, Ge, f_A_19, l_A_19⟩ := bk2 wj
 replace wj := Lib.hid wj
 have wk := (hb19.block (w7.heap.size + 1 + 1) (blk_lt' vp.out)).trans vp.out
 clear Ud Ue f_B_18 vp
 obtain ⟨Gf, Gg, f_B_19, l_B_19⟩ := bk2 wk
 replace wk := Lib.hid wk
 have wl := (hb19.block (w9.heap.size) (blk_lt' vq.out)).trans vq.out
 clear Uf Ug f_G_18 vq
 obtain ⟨Gh, Gi, f_G_19, l_G_19⟩ := bk2 wl
 replace wl := Lib.hid wl
 have wm := (hb19.block (w9.heap.size + 1) (blk_lt' vr.out)).trans vr.out
 clear Uh Ui f_H_18 vr
 obtain ⟨Gj, Gk, f_H_19, l_H_19⟩ := bk2 wm
 replace wm := Lib.hid wm
 have wn := (hb19.block (w11.heap.size) (blk_lt' vt.out)).trans vt.out
 clear Uj Uk f_I_18 vt
 obtain ⟨Gl, Gm, f_I_19, l_I_19⟩ := bk2 wn
 replace wn := Lib.hid wn
 have wo := (hb19.block (w11.heap.size + 1) (blk_lt' vu.out)).trans vu.out
 clear Ul Um f_J_18 vu
 obtain ⟨Gn, Gp, f_J_19, l_J_19⟩ := bk2 wo
 replace wo := Lib.hid wo
 have hB19 : Below w.heap.size w w19 := below_via hb19 (by assumption) (by first | exact hB18.size | go_size)
 clear hb19 T19
 replace vv := vv.out
 replace vw := vw.out
 replace vx := vx.out
 replace vy := vy.out
 replace vz := vz.out
 replace wd := wd.out
 replace wg := wg.out
 replace wi := wi.out
 replace wj := wj.out
 replace wk := wk.out
 replace wl := wl.out
 replace wm := wm.out
 replace wn := wn.out
 replace wo := wo.out
 refine chk (fun W => Below w.heap.size w W ∧ W.heap[w1.heap.size]? = some (.cells #[.int .i64 ta, .int .i64 tb] 24 (0, 0)) ∧ W.heap[w1.heap.size + 1]? = some (.cells #[.int .i64 nx, .int .i64 dx] 26 (0, 0)) ∧ W.heap[w1.heap.size + 1 + 1]? = some (.cells #[.int .i64 ny, .int .i64 dy] 26 (0, 0)) ∧ W.heap[w3.heap.size]? = some (.cells #[.int .i64 p1, .int .i64 p2] 26 (0, 0)) ∧ W.heap[w3.heap.size + 1]? = some (.cells #[.int .i64 z1, .int .i64 z2] 26 (0, 0)) ∧ W.heap[w5.heap.size]? = some (.cells #[.int .i64 p1, .int .i64 p2] 26 (0, 0)) ∧ W.heap[w5.heap.size + 1]? = some (.cells #[.int .i64 z1, .int .i64 z2] 26 (0, 0)) ∧ W.heap[w7.heap.size]? = some (.cells #[.int .i64 da, .int .i64 db] 24 (0, 0)) ∧ W.heap[w7.heap.size + 1]? = some (.cells #[.int .i64 aa, .int .i64 ab] 26 (0, 0)) ∧ W.heap[w7.heap.size + 1 + 1]? = some (.cells #[.int .i64 ba, .int .i64 bb] 26 (0, 0)) ∧ W.heap[w9.heap.size]? = some (.cells #[.int .i64 ga, .int .i64 gb] 26 (0, 0)) ∧ W.heap[w9.heap.size + 1]? = some (.cells #[.int .i64 ja, .int .i64 jb] 26 (0, 0)) ∧ W.heap[w11.heap.size]? = some (.cells #[.int .i64 ga, .int .i64 gb] 26 (0, 0)) ∧ W.heap[w11.heap.size + 1]? = some (.cells #[.int .i64 ja, .int .i64 jb] 26 (0, 0))) (by refine ⟨?_, ?_, ?_, ?_, ?_, ?_, ?_, ?_, ?_, ?_, ?_, ?_, ?_, ?_, ?_⟩ <;> (exact ck)) ?_
 clear Un Uo f_T_19 vv
 clear Up Uq f_X_19 vw
 clear Ur Us f_Y_19 vx
 clear Ut Uu f_U_19 vy
 clear Uv Uw f_V_19 vz
 clear Ux Uy f_P_19 wd
 clear Uz Ga f_Z_19 wg
 clear Gb Gc f_D_19 wi
 clear Gd Ge f_A_19 wj
 clear Gf Gg f_B_19 wk
 clear Gh Gi f_G_19 wl
 clear Gj Gk f_H_19 wm
 clear Gl Gm f_I_19 wn
 clear Gn Gp f_J_19 wo
 clear hB19
 rintro w20 ⟨hB20, wq, ws, wt, wu, wv, ww, wz, ua, ub, uc, ue, uf, ug, uh⟩
 obtain ⟨Gq, Gr, f_T_20, l_T_20⟩ := bk2 wq
 replace wq := Lib.hid wq
 obtain ⟨Gs, Gt, f_X_20, l_X_20⟩ := bk2 ws
 replace ws := Lib.hid ws
 obtain ⟨Gu, Gv, f_Y_20, l_Y_20⟩ := bk2 wt
 replace wt := Lib.hid wt
 obtain ⟨Gw, Gx, f_U_20, l_U_20⟩ := bk2 wu
 replace wu := Lib.hid wu
 obtain ⟨Gy, Gz, f_V_20, l_V_20⟩ := bk2 wv
 replace wv := Lib.hid wv
 obtain ⟨Ha, Hb, f_P_20, l_P_20⟩ := bk2 ww
 replace ww := Lib.hid ww
 obtain ⟨Hc, Hd, f_Z_20, l_Z_20⟩ := bk2 wz
 replace wz := Lib.hid wz
 obtain ⟨He, Hf, f_D_20, l_D_20⟩ := bk2 ua
 replace ua := Lib.hid ua
 obtain ⟨Hg, Hh, f_A_20, l_A_20⟩ := bk2 ub
 replace ub := Lib.hid ub
 obtain ⟨Hi, Hj, f_B_20, l_B_20⟩ := bk2 uc
 replace uc := Lib.hid uc
 obtain ⟨Hk, Hl, f_G_20, l_G_20⟩ := bk2 ue
 replace ue := Lib.hid ue
 obtain ⟨Hm, Hn, f_H_20, l_H_20⟩ := bk2 uf
 replace uf := Lib.hid uf
 obtain ⟨Ho, Hp, f_I_20, l_I_20⟩ := bk2 ug
 replace ug := Lib.hid ug
 obtain ⟨Hq, Hr, f_J_20, l_J_20⟩ := bk2 uh
 replace uh := Lib.hid uh
 go_upto_region 14 with (first | (have _t := tok21; go_at_call 14; (with_reducible refine ((T21 _).out).mono ?_); rintro e w21 ⟨rfl, hb21⟩; clear tok21 _t; have hz21 := hb21.size; (try simp only [sA, sB, sC, sD] at hz21)))
 have ui := (hb21.block (w1.heap.size) (blk_lt' wq.out)).trans wq.out
 clear Gq Gr f_T_20 wq
 obtain ⟨Hs, Ht, f_T_21, l_T_21⟩ := bk2 ui
 replace ui := Lib.hid ui
 have uj := (hb21.block (w1.heap.size + 1) (blk_lt' ws.out)).trans ws.out
 clear Gs Gt f_X_20 ws
 obtain ⟨Hu, Hv, f_X_21, l_X_21⟩ := bk2 uj
 replace uj := Lib.hid uj
 have uk := (hb21.block (w1.heap.size + 1 + 1) (blk_lt' wt.out)).trans wt.out
 clear Gu Gv f_Y_20 wt
 obtain ⟨Hw, Hx, f_Y_21, l_Y_21⟩ := bk2 uk
 replace uk := Lib.hid uk
 have ul := (hb21.block (w3.heap.size) (blk_lt' wu.out)).trans wu.out
 clear Gw Gx f_U_20 wu
 obtain ⟨Hy, Hz, f_U_21, l_U_21⟩ := bk2 ul
 replace ul := Lib.hid ul
 have um := (hb21.block (w3.heap.size + 1) (blk_lt' wv.out)).trans wv.out
 clear Gy Gz f_V_20 wv
 obtain ⟨Ka, Kb, f_V_21, l_V_21⟩ := bk2 um
 replace um := Lib.hid um
 have uq := (hb21.block (w5.heap.size) (blk_lt' ww.out)).trans ww.out
 clear Ha Hb f_P_20 ww
 obtain ⟨Kc, Kd, f_P_21, l_P_21⟩ := bk2 uq
 replace uq := Lib.hid uq
 have ur := (hb21.block (w5.heap.size + 1) (blk_lt' wz.out)).trans wz.out
 clear Hc Hd f_Z_20 wz
 obtain ⟨Ke, Kf, f_Z_21, l_Z_21⟩ := bk2 ur
 replace ur := Lib.hid ur
 have us := (hb21.block (w7.heap.size) (blk_lt' ua.out)).trans ua.out
 clear He Hf f_D_20 ua
 obtain ⟨Kg, Kh, f_D_21, l_D_21⟩ := bk2 us
 replace us := Lib.hid us
 have ut := (hb21.block (w7.heap.size + 1) (blk_lt' ub.out)).trans ub.out
 clear Hg Hh f_A_20 ub
 obtain ⟨Ki, Kj, f_A_21, l_A_21⟩ := bk2 ut
 replace ut := Lib.hid ut
 have uw := (hb21.block (w7.heap.size + 1 + 1) (blk_lt' uc.out)).trans uc.out
 clear Hi Hj f_B_20 uc
 obtain ⟨Kk, Kl, f_B_21, l_B_21⟩ := bk2 uw
 replace uw := Lib.hid uw
 have ux := (hb21.block (w9.heap.size) (blk_lt' ue.out)).trans ue.out
 clear Hk Hl f_G_20 ue
 obtain ⟨Km, Kn, f_G_21, l_G_21⟩ := bk2 ux
 replace ux := Lib.hid ux
 have uy := (hb21.block (w9.heap.size + 1) (blk_lt' uf.out)).trans uf.out
 clear Hm Hn f_H_20 uf
 obtain ⟨Ko, Kp, f_H_21, l_H_21⟩ := bk2 uy
 replace uy := Lib.hid uy
 have uz := (hb21.block (w11.heap.size) (blk_lt' ug.out)).trans ug.out
 clear Ho Hp f_I_20 ug
 obtain ⟨Kq, Kr, f_I_21, l_I_21⟩ := bk2 uz
 replace uz := Lib.hid uz
 have gc := (hb21.block (w11.heap.size + 1) (blk_lt' uh.out)).trans uh.out
 clear Hq Hr f_J_20 uh
 obtain ⟨Ks, Kt, f_J_21, l_J_21⟩ := bk2 gc
 replace gc := Lib.hid gc
 have hB21 : Below w.heap.size w w21 := below_via hb21 (by assumption) (by first | exact hB20.size | go_size)
 clear hb21 T21
 replace ui := ui.out
 replace uj := uj.out
 replace uk := uk.out
 replace ul := ul.out
 replace um := um.out
 replace uq := uq.out
 replace ur := ur.out
 replace us := us.out
 replace ut := ut.out
 replace uw := uw.out
 replace ux := ux.out
 replace uy := uy.out
 replace uz := uz.out
 replace gc := gc.out
 refine chk (fun W => Below w.heap.size w W ∧ W.heap[w1.heap.size]? = some (.cells #[.int .i64 ta, .int .i64 tb] 24 (0, 0)) ∧ W.heap[w1.heap.size + 1]? = some (.cells #[.int .i64 nx, .int .i64 dx] 26 (0, 0)) ∧ W.heap[w1.heap.size + 1 + 1]? = some (.cells #[.int .i64 ny, .int .i64 dy] 26 (0, 0)) ∧ W.heap[w3.heap.size]? = some (.cells #[.int .i64 p1, .int .i64 p2] 26 (0, 0)) ∧ W.heap[w3.heap.size + 1]? = some (.cells #[.int .i64 z1, .int .i64 z2] 26 (0, 0)) ∧ W.heap[w5.heap.size]? = some (.cells #[.int .i64 p1, .int .i64 p2] 26 (0, 0)) ∧ W.heap[w5.heap.size + 1]? = some (.cells #[.int .i64 z1, .int .i64 z2] 26 (0, 0)) ∧ W.heap[w7.heap.size]? = some (.cells #[.int .i64 da, .int .i64 db] 24 (0, 0)) ∧ W.heap[w7.heap.size + 1]? = some (.cells #[.int .i64 aa, .int .i64 ab] 26 (0, 0)) ∧ W.heap[w7.heap.size + 1 + 1]? = some (.cells #[.int .i64 ba, .int .i64 bb] 26 (0, 0)) ∧ W.heap[w9.heap.size]? = some (.cells #[.int .i64 ga, .int .i64 gb] 26 (0, 0)) ∧ W.heap[w9.heap.size + 1]? = some (.cells #[.int .i64 ja, .int .i64 jb] 26 (0, 0)) ∧ W.heap[w11.heap.size]? = some (.cells #[.int .i64 ga, .int .i64 gb] 26 (0, 0)) ∧ W.heap[w11.heap.size + 1]? = some (.cells #[.int .i64 ja, .int .i64 jb] 26 (0, 0)) ∧ W.heap[w21.heap.size]? = some (.cells #[.int .i64 ra, .int .i64 rb] 35 (0, 0))) (by refine ⟨?_, ?_, ?_, ?_, ?_, ?_, ?_, ?_, ?_, ?_, ?_, ?_, ?_, ?_, ?_, ?_⟩ <;> (exact ck)) ?_
 clear Hs Ht f_T_21 ui
 clear Hu Hv f_X_21 uj
 clear Hw Hx f_Y_21 uk
 clear Hy Hz f_U_21 ul
 clear Ka Kb f_V_21 um
 clear Kc Kd f_P_21 uq
 clear Ke Kf f_Z_21 ur
 clear Kg Kh f_D_21 us
 clear Ki Kj f_A_21 ut
 clear Kk Kl f_B_21 uw
 clear Km Kn f_G_21 ux
 clear Ko Kp f_H_21 uy
 clear Kq Kr f_I_21 uz
 clear Ks Kt f_J_21 gc
 clear hB21
 rintro w22 ⟨hB22, gd, ge, gf, gg, gh, gi, gj, gk, gl, gm, gn, gp, gr, gt, gu⟩
 obtain ⟨Ku, Kv, f_T_22, l_T_22⟩ := bk2 gd
 replace gd := Lib.hid gd
 obtain ⟨Kw, Kx, f_X_22, l_X_22⟩ := bk2 ge
 replace ge := Lib.hid ge
 obtain ⟨Ky, Kz, f_Y_22, l_Y_22⟩ := bk2 gf
 replace gf := Lib.hid gf
 obtain ⟨Pa, Pb, f_U_22, l_U_22⟩ := bk2 gg
 replace gg := Lib.hid gg
 obtain ⟨Pc, Pd, f_V_22, l_V_22⟩ := bk2 gh
 replace gh := Lib.hid gh
 obtain ⟨Pe, Pf, f_P_22, l_P_22⟩ := bk2 gi
 replace gi := Lib.hid gi
 obtain ⟨Pg, Ph, f_Z_22, l_Z_22⟩ := bk2 gj
 replace gj := Lib.hid gj
 obtain ⟨Pi, Pj, f_D_22, l_D_22⟩ := bk2 gk
 replace gk := Lib.hid gk
 obtain ⟨Pk, Pm, f_A_22, l_A_22⟩ := bk2 gl
 replace gl := Lib.hid gl
 obtain ⟨Pn, Po, f_B_22, l_B_22⟩ := bk2 gm
 replace gm := Lib.hid gm
 obtain ⟨Pp, Pq, f_G_22, l_G_22⟩ := bk2 gn
 replace gn := Lib.hid gn
 obtain ⟨Pr, Ps, f_H_22, l_H_22⟩ := bk2 gp
 replace gp := Lib.hid gp
 obtain ⟨Pt, Pu, f_I_22, l_I_22⟩ := bk2 gr
 replace gr := Lib.hid gr
 obtain ⟨Pv, Pw, f_J_22, l_J_22⟩ := bk2 gt
 replace gt := Lib.hid gt
 obtain ⟨Px, Py, f_Q_22, l_Q_22⟩ := bk2 gu
 replace gu := Lib.hid gu
 have sz22 := hB22.size
 have e0 : (ok != ok) = false := by simp
 have e1 : (one != one) = false := by simp
 have e2 : (told != told) = false := by simp
 have e3 : (is != is) = false := by simp
 have e4 : (five != five) = false := by simp
 have e5 : (seven != seven) = false := by simp
 have v0 : (m != m) = false := by simp
 have v1 : (n != n) = false := by simp
 have v2 : (mv != mv) = false := by simp
 have E1 := fun W => neqFr_same p1 p2 W
 have E2 := fun W => neqFr_same z1 z2 W
 have E3 := fun W => neqFr_same ga gb W
 have E4 := fun W => neqFr_same ja jb W
 have E5 := fun W => neqCu_same ra rb W
 go_upto_region 15 with (first | (have _t := tok23; go_at_call 15; (with_reducible refine ((T23 _).out).mono ?_); rintro e w23 ⟨rfl, hb23⟩; clear tok23 _t; have hz23 := hb23.size; (try simp only [sA, sB, sC, sD] at hz23)))
 have gv := (hb23.block (w1.heap.size) (blk_lt' gd.out)).trans gd.out
 clear Ku Kv f_T_22 gd
 obtain ⟨Pz, Da, f_T_23, l_T_23⟩ := bk2 gv
 replace gv := Lib.hid gv
 have gy := (hb23.block (w1.heap.size + 1) (blk_lt' ge.out)).trans ge.out
 clear Kw Kx f_X_22 ge
 obtain ⟨Db, Dc, f_X_23, l_X_23⟩ := bk2 gy
 replace gy := Lib.hid gy
 have gz := (hb23.block (w1.heap.size + 1 + 1) (blk_lt' gf.out)).trans gf.out
 clear Ky Kz f_Y_22 gf
 obtain ⟨Dd, De, f_Y_23, l_Y_23⟩ := bk2 gz
 replace gz := Lib.hid gz
 have ka := (hb23.block (w3.heap.size) (blk_lt' gg.out)).trans gg.out
 clear Pa Pb f_U_22 gg
 obtain ⟨Df, Dg, f_U_23, l_U_23⟩ := bk2 ka
 replace ka := Lib.hid ka
 have kb := (hb23.block (w3.heap.size + 1) (blk_lt' gh.out)).trans gh.out
 clear Pc Pd f_V_22 gh
 obtain ⟨Dh, Di, f_V_23, l_V_23⟩ := bk2 kb
 replace kb := Lib.hid kb
 have kc := (hb23.block (w5.heap.size) (blk_lt' gi.out)).trans gi.out
 clear Pe Pf f_P_22 gi
 obtain ⟨Dj, Dk, f_P_23, l_P_23⟩ := bk2 kc
 replace kc := Lib.hid kc
 have ke := (hb23.block (w5.heap.size + 1) (blk_lt' gj.out)).trans gj.out
 clear Pg Ph f_Z_22 gj
 obtain ⟨Dl, Dm, f_Z_23, l_Z_23⟩ := bk2 ke
 replace ke := Lib.hid ke
 have kg := (hb23.block (w7.heap.size) (blk_lt' gk.out)).trans gk.out
 clear Pi Pj f_D_22 gk
 obtain ⟨Dn, Do, f_D_23, l_D_23⟩ := bk2 kg
 replace kg := Lib.hid kg
 have kh := (hb23.block (w7.heap.size + 1) (blk_lt' gl.out)).trans gl.out
 clear Pk Pm f_A_22 gl
 obtain ⟨Dp, Dq, f_A_23, l_A_23⟩ := bk2 kh
 replace kh := Lib.hid kh
 have ki := (hb23.block (w7.heap.size + 1 + 1) (blk_lt' gm.out)).trans gm.out
 clear Pn Po f_B_22 gm
 obtain ⟨Dr, Ds, f_B_23, l_B_23⟩ := bk2 ki
 replace ki := Lib.hid ki
 have kj := (hb23.block (w9.heap.size) (blk_lt' gn.out)).trans gn.out
 clear Pp Pq f_G_22 gn
 obtain ⟨Dt, Du, f_G_23, l_G_23⟩ := bk2 kj
 replace kj := Lib.hid kj
 have kk := (hb23.block (w9.heap.size + 1) (blk_lt' gp.out)).trans gp.out
 clear Pr Ps f_H_22 gp
 obtain ⟨Dv, Dw, f_H_23, l_H_23⟩ := bk2 kk
 replace kk := Lib.hid kk
 have kl := (hb23.block (w11.heap.size) (blk_lt' gr.out)).trans gr.out
 clear Pt Pu f_I_22 gr
 obtain ⟨Dx, Dy, f_I_23, l_I_23⟩ := bk2 kl
 replace kl := Lib.hid kl
 have kr := (hb23.block (w11.heap.size + 1) (blk_lt' gt.out)).trans gt.out
 clear Pv Pw f_J_22 gt
 obtain ⟨Dz, Fa, f_J_23, l_J_23⟩ := bk2 kr
 replace kr := Lib.hid kr
 have ks := (hb23.block (w21.heap.size) (blk_lt' gu.out)).trans gu.out
 clear Px Py f_Q_22 gu
 obtain ⟨Fb, Fc, f_Q_23, l_Q_23⟩ := bk2 ks
 replace ks := Lib.hid ks
 have hB23 : Below w.heap.size w w23 := below_via hb23 (by assumption) (by first | exact hB22.size | go_size)
 clear hb23 T23
 replace gv := gv.out
 replace gy := gy.out
 replace gz := gz.out
 replace ka := ka.out
 replace kb := kb.out
 replace kc := kc.out
 replace ke := ke.out
 replace kg := kg.out
 replace kh := kh.out
 replace ki := ki.out
 replace kj := kj.out
 replace kk := kk.out
 replace kl := kl.out
 replace kr := kr.out
 replace ks := ks.out
 refine chk (fun W => Below w.heap.size w W ∧ W.heap[w1.heap.size]? = some (.cells #[.int .i64 ta, .int .i64 tb] 24 (0, 0)) ∧ W.heap[w1.heap.size + 1]? = some (.cells #[.int .i64 nx, .int .i64 dx] 26 (0, 0)) ∧ W.heap[w1.heap.size + 1 + 1]? = some (.cells #[.int .i64 ny, .int .i64 dy] 26 (0, 0)) ∧ W.heap[w3.heap.size]? = some (.cells #[.int .i64 p1, .int .i64 p2] 26 (0, 0)) ∧ W.heap[w3.heap.size + 1]? = some (.cells #[.int .i64 z1, .int .i64 z2] 26 (0, 0)) ∧ W.heap[w5.heap.size]? = some (.cells #[.int .i64 p1, .int .i64 p2] 26 (0, 0)) ∧ W.heap[w5.heap.size + 1]? = some (.cells #[.int .i64 z1, .int .i64 z2] 26 (0, 0)) ∧ W.heap[w7.heap.size]? = some (.cells #[.int .i64 da, .int .i64 db] 24 (0, 0)) ∧ W.heap[w7.heap.size + 1]? = some (.cells #[.int .i64 aa, .int .i64 ab] 26 (0, 0)) ∧ W.heap[w7.heap.size + 1 + 1]? = some (.cells #[.int .i64 ba, .int .i64 bb] 26 (0, 0)) ∧ W.heap[w9.heap.size]? = some (.cells #[.int .i64 ga, .int .i64 gb] 26 (0, 0)) ∧ W.heap[w9.heap.size + 1]? = some (.cells #[.int .i64 ja, .int .i64 jb] 26 (0, 0)) ∧ W.heap[w11.heap.size]? = some (.cells #[.int .i64 ga, .int .i64 gb] 26 (0, 0)) ∧ W.heap[w11.heap.size + 1]? = some (.cells #[.int .i64 ja, .int .i64 jb] 26 (0, 0)) ∧ W.heap[w21.heap.size]? = some (.cells #[.int .i64 ra, .int .i64 rb] 35 (0, 0)) ∧ W.heap[w23.heap.size]? = some (.cells #[.int .i64 ra, .int .i64 rb] 35 (0, 0))) (by refine ⟨?_, ?_, ?_, ?_, ?_, ?_, ?_, ?_, ?_, ?_, ?_, ?_, ?_, ?_, ?_, ?_, ?_⟩ <;> (exact ck)) ?_
 clear Pz Da f_T_23 gv
 clear Db Dc f_X_23 gy
 clear Dd De f_Y_23 gz
 clear Df Dg f_U_23 ka
 clear Dh Di f_V_23 kb
 clear Dj Dk f_P_23 kc
 clear Dl Dm f_Z_23 ke
 clear Dn Do f_D_23 kg
 clear Dp Dq f_A_23 kh
 clear Dr Ds f_B_23 ki
 clear Dt Du f_G_23 kj
 clear Dv Dw f_H_23 kk
 clear Dx Dy f_I_23 kl
 clear Dz Fa f_J_23 kr
 clear Fb Fc f_Q_23 ks
 clear hB23
 rintro w24 ⟨hB24, kt, ku, kw, bp, br, kx, ky, kz, bs, bt, bu, bx, pa, pb, bz, pc⟩
 obtain ⟨Fd, Fe, f_T_24, l_T_24⟩ := bk2 kt
 replace kt := Lib.hid kt
 obtain ⟨Ff, Fg, f_X_24, l_X_24⟩ := bk2 ku
 replace ku := Lib.hid ku
 obtain ⟨Fh, Fi, f_Y_24, l_Y_24⟩ := bk2 kw
 replace kw := Lib.hid kw
 obtain ⟨Fj, Fk, f_U_24, l_U_24⟩ := bk2 bp
 replace bp := Lib.hid bp
 obtain ⟨Fl, Fm, f_V_24, l_V_24⟩ := bk2 br
 replace br := Lib.hid br
 obtain ⟨Fn, Fo, f_P_24, l_P_24⟩ := bk2 kx
 replace kx := Lib.hid kx
 obtain ⟨Fp, Fq, f_Z_24, l_Z_24⟩ := bk2 ky
 replace ky := Lib.hid ky
 obtain ⟨Fs, Ft, f_D_24, l_D_24⟩ := bk2 kz
 replace kz := Lib.hid kz
 obtain ⟨Fu, Fv, f_A_24, l_A_24⟩ := bk2 bs
 replace bs := Lib.hid bs
 obtain ⟨Fw, Fx, f_B_24, l_B_24⟩ := bk2 bt
 replace bt := Lib.hid bt
 obtain ⟨Fy, Fz, f_G_24, l_G_24⟩ := bk2 bu
 replace bu := Lib.hid bu
 obtain ⟨Ba, Bb, f_H_24, l_H_24⟩ := bk2 bx
 replace bx := Lib.hid bx
 obtain ⟨Bc, Be, f_I_24, l_I_24⟩ := bk2 pa
 replace pa := Lib.hid pa
 obtain ⟨Bf, Bg, f_J_24, l_J_24⟩ := bk2 pb
 replace pb := Lib.hid pb
 obtain ⟨Bh, Bi, f_Q_24, l_Q_24⟩ := bk2 bz
 replace bz := Lib.hid bz
 obtain ⟨Bj, Bk, f_R_24, l_R_24⟩ := bk2 pc
 replace pc := Lib.hid pc
 clear sz22
 have sz24 := hB24.size
 go_cut [236] (fun sq wx => sq = .bool false ∧ Below w24.heap.size w24 wx)
 case first =>
  clear F2 F3 F4
  replace F1 := F1.out
  cases ok
  ·as_aux_lemma =>
    clear F1
    go_wp2_with ((first | (have _t := tok25; go_at_call 16; (with_reducible refine ((T25 _).out).mono ?_); rintro e w25 ⟨rfl, hb25⟩; clear tok25 _t; have hz25 := hb25.size; (try simp only [sA, sB, sC, sD] at hz25))))
    all_goals first | (exfalso; rename_i q1 q2; first | (cases q1; done) | (simp [undef] at q1; done)) | (go_meet; exact ⟨by first | rfl | simp, by exact bel⟩)
  ·obtain ⟨rfl, rfl⟩ := F1 rfl
   as_aux_lemma =>
    clear F1
    go_wp2_with ((first | (have _t := tok25; go_at_call 16; (with_reducible refine ((T25 _).out).mono ?_); rintro e w25 ⟨rfl, hb25⟩; clear tok25 _t; have hz25 := hb25.size; (try simp only [sA, sB, sC, sD] at hz25))))
    go_meet
    exact ⟨by first | rfl | simp, by exact bel⟩
 case rest =>
  obtain ⟨rfl, hb40⟩ := hcut
  generalize wc = w40 at *
  clear T25 E1 E2 E3 E4 E5 F1 e0 e1 e2 e3 e4 e5 v0 v1 v2
  clear Fj
  clear Fk
  clear f_U_24 bp
  clear Fl
  clear Fm
  clear f_V_24 br
  clear Fu
  clear Fv
  clear f_A_24 bs
  clear Fw
  clear Fx
  clear f_B_24 bt
  clear Fy
  clear Fz
  clear f_G_24 bu
  clear Ba
  clear Bb
  clear f_H_24 bx
  clear Bh
  clear Bi
  clear f_Q_24 bz
  have qa := (hb40.block (w1.heap.size) (blk_lt' kt.out)).trans kt.out
  clear Fd Fe f_T_24 kt
  obtain ⟨Bl, Bm, f_T_40, l_T_40⟩ := bk2 qa
  replace qa := Lib.hid qa
  have qb := (hb40.block (w1.heap.size + 1) (blk_lt' ku.out)).trans ku.out
  clear Ff Fg f_X_24 ku
  obtain ⟨Bo, Bp, f_X_40, l_X_40⟩ := bk2 qb
  replace qb := Lib.hid qb
  have qc := (hb40.block (w1.heap.size + 1 + 1) (blk_lt' kw.out)).trans kw.out
  clear Fh Fi f_Y_24 kw
  obtain ⟨Bq, Br, f_Y_40, l_Y_40⟩ := bk2 qc
  replace qc := Lib.hid qc
  have qf := (hb40.block (w5.heap.size) (blk_lt' kx.out)).trans kx.out
  clear Fn Fo f_P_24 kx
  obtain ⟨Bs, Bt, f_P_40, l_P_40⟩ := bk2 qf
  replace qf := Lib.hid qf
  have qg := (hb40.block (w5.heap.size + 1) (blk_lt' ky.out)).trans ky.out
  clear Fp Fq f_Z_24 ky
  obtain ⟨Bu, Bv, f_Z_40, l_Z_40⟩ := bk2 qg
  replace qg := Lib.hid qg
  have pd := (hb40.block (w7.heap.size) (blk_lt' kz.out)).trans kz.out
  clear Fs Ft f_D_24 kz
  obtain ⟨Bw, By, f_D_40, l_D_40⟩ := bk2 pd
  replace pd := Lib.hid pd
  have pe := (hb40.block (w11.heap.size) (blk_lt' pa.out)).trans pa.out
  clear Bc Be f_I_24 pa
  obtain ⟨Bz, Ca, f_I_40, l_I_40⟩ := bk2 pe
  replace pe := Lib.hid pe
  have pf := (hb40.block (w11.heap.size + 1) (blk_lt' pb.out)).trans pb.out
  clear Bf Bg f_J_24 pb
  obtain ⟨Cb, Cc, f_J_40, l_J_40⟩ := bk2 pf
  replace pf := Lib.hid pf
  have qh := (hb40.block (w23.heap.size) (blk_lt' pc.out)).trans pc.out
  clear Bj Bk f_R_24 pc
  obtain ⟨Cd, Ce, f_R_40, l_R_40⟩ := bk2 qh
  replace qh := Lib.hid qh
  have hB40 : Below w.heap.size w w40 := below_via hb40 (by assumption) (by first | exact hB24.size | go_size)
  clear hb40
  cases one
  ·have _t := trivial
   iterate 90 (first | ((with_reducible show Code.wp _ (.seq (.seq (.region 21 _ _) _) _) _ _ _); exact FnIs_21 hB40 qa.out qb.out qc.out qf.out qg.out qh.out F2.out F3.out) | go_values | go_skip | go_guarded | go_step | go_upon | go_back | skip)
  ·obtain ⟨is2, told2, R27, ht⟩ := F4.out rfl
   have T27 := fun W : World => Lib.hid (R27 W)
   clear F4 R27
   go_upto_region 19 with (first | (have _t := tok27; go_at_call 10; (with_reducible refine ((T27 _).out).mono ?_); rintro e w27 ⟨rfl, hb27⟩; clear tok27 _t; have hz27 := hb27.size; (try simp only [sA, sB, sC, sD] at hz27)))
   have pg := (hb27.block (w1.heap.size) (blk_lt' qa.out)).trans qa.out
   clear Bl Bm f_T_40 qa
   obtain ⟨k_T_27_0, k_T_27_1, f_T_27, l_T_27⟩ := bk2 pg
   replace pg := Lib.hid pg
   have ph := (hb27.block (w1.heap.size + 1) (blk_lt' qb.out)).trans qb.out
   clear Bo Bp f_X_40 qb
   obtain ⟨k_X_27_0, k_X_27_1, f_X_27, l_X_27⟩ := bk2 ph
   replace ph := Lib.hid ph
   have pi := (hb27.block (w1.heap.size + 1 + 1) (blk_lt' qc.out)).trans qc.out
   clear Bq Br f_Y_40 qc
   obtain ⟨k_Y_27_0, k_Y_27_1, f_Y_27, l_Y_27⟩ := bk2 pi
   replace pi := Lib.hid pi
   have pj := (hb27.block (w5.heap.size) (blk_lt' qf.out)).trans qf.out
   clear Bs Bt f_P_40 qf
   obtain ⟨k_P_27_0, k_P_27_1, f_P_27, l_P_27⟩ := bk2 pj
   replace pj := Lib.hid pj
   have pk := (hb27.block (w5.heap.size + 1) (blk_lt' qg.out)).trans qg.out
   clear Bu Bv f_Z_40 qg
   obtain ⟨k_Z_27_0, k_Z_27_1, f_Z_27, l_Z_27⟩ := bk2 pk
   replace pk := Lib.hid pk
   have cd := (hb27.block (w7.heap.size) (blk_lt' pd.out)).trans pd.out
   clear Bw By f_D_40 pd
   obtain ⟨k_D_27_0, k_D_27_1, f_D_27, l_D_27⟩ := bk2 cd
   replace cd := Lib.hid cd
   have ce := (hb27.block (w11.heap.size) (blk_lt' pe.out)).trans pe.out
   clear Bz Ca f_I_40 pe
   obtain ⟨k_I_27_0, k_I_27_1, f_I_27, l_I_27⟩ := bk2 ce
   replace ce := Lib.hid ce
   have cf := (hb27.block (w11.heap.size + 1) (blk_lt' pf.out)).trans pf.out
   clear Cb Cc f_J_40 pf
   obtain ⟨k_J_27_0, k_J_27_1, f_J_27, l_J_27⟩ := bk2 cf
   replace cf := Lib.hid cf
   have pn := (hb27.block (w23.heap.size) (blk_lt' qh.out)).trans qh.out
   clear Cd Ce f_R_40 qh
   obtain ⟨k_R_27_0, k_R_27_1, f_R_27, l_R_27⟩ := bk2 pn
   replace pn := Lib.hid pn
   have hB27 : Below w.heap.size w w27 := below_via hb27 (by assumption) (by first | exact hB40.size | go_size)
   clear hb27 T27
   cases told2
   ·clear ht
    iterate 90 (first | ((with_reducible show Code.wp _ (.seq (.seq (.region 21 _ _) _) _) _ _ _); exact FnIs_21 hB27 pg.out ph.out pi.out pj.out pk.out pn.out F2.out F3.out) | go_values | go_skip | go_guarded | go_step | go_upon | go_back | skip)
   ·obtain rfl := ht rfl
    iterate 90 (first | ((with_reducible show Code.wp _ (.seq (.seq (.region 21 _ _) _) _) _ _ _); exact FnIs_21 hB27 pg.out ph.out pi.out pj.out pk.out pn.out F2.out F3.out) | go_values | go_skip | go_guarded | go_step | go_upon | go_back | skip)
end Go.Proofs.YtnemnkbcbokafaaGreat
