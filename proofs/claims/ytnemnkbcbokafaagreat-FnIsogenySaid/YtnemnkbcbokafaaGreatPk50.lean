/- Lemmas and contracts of functions. No condition. -/
import Derived.Test.YtnemnkbcbokafaaGreatPk8
import Derived.Test.YtnemnkbcbokafaaGreatPk12
import Derived.Test.YtnemnkbcbokafaaGreatPk49
namespace Go.Proofs.YtnemnkbcbokafaaGreat
open Go.RowKit
set_option linter.unusedVariables false
set_option maxHeartbeats 0
set_option maxRecDepth 20000
set_option linter.unusedSimpArgs false

theorem FnIs_24 {ta tb nx dx ny dy p1 p2 z1 z2 ra rb mv : Int} {ok seven : Bool} {w W : World} {gT gX gY gP gZ gR : Nat} {u0 u1 u2 u3 u4 u8 u9 u13 u14 u15 u16 u17 u18 u19 u20 u21 u22 u23 u24 u25 u26 u27 u28 u29 u30 u31 u32 u33 u34 u38 u39 u40 u41 u42 u43 u44 u45 u46 u47 u48 u49 u50 u51 u52 u53 u54 u55 u56 u57 u58 u59 u60 u61 u62 u63 u64 u65 u66 u67 u68 u69 u70 u71 u72 u73 u74 u75 u76 u77 u78 u79 u80 u81 u82 u83 u84 u85 u86 u87 u88 u89 u90 u91 u92 u93 u94 u95 u96 u97 u98 u99 u100 u101 u102 u103 u104 u105 u106 u107 u108 u109 u110 u111 u112 u113 u114 u115 u116 u117 u118 u119 u120 u121 u122 u123 u124 u125 u126 u127 u128 u129 u130 u131 u132 u133 u134 u135 u136 u137 u138 u139 u140 u141 u142 u143 u144 u145 u146 u147 u148 u149 u150 u151 u152 u153 u154 u155 u156 u157 u158 u159 u160 u161 u162 u163 u164 u165 u166 u167 u168 u169 u170 u171 u172 u173 u174 u175 u176 u177 u178 u179 u180 u181 u182 u183 u184 u185 u186 u187 u188 u189 u190 u191 u192 u193 u194 u195 u196 u197 u198 u199 u200 u201 u202 u203 u204 u205 u206 u207 u208 u209 u210 u211 u212 u213 u214 u215 u216 u217 u218 u219 u220 u221 u222 u223 u224 u225 u226 u227 u228 u229 u230 u231 u232 u233 u234 u235 u236 u237 u238 u239 u240 u241 u242 u243 u244 u245 u246 u247 u248 u249 u250 u251 u252 u253 u254 u255 u256 u257 u258 u259 u260 u261 u262 u263 u264 u265 u266 u267 u268 u269 u270 u271 u272 u273 u274 u275 u276 u277 u278 u279 u280 u281 u282 u283 u284 u285 u286 u287 u288 u289 u290 u291 u292 u293 u294 u295 u296 u297 u298 u299 u300 u301 u302 u303 u304 u305 u306 u307 u308 u309 u310 u311 u312 u313 u314 u315 u316 u317 u318 u319 u320 u321 u322 u323 u324 u325 u326 u327 u328 u329 u330 u331 u332 u333 u334 u335 u336 u337 u338 u339 u340 u341 u342 u343 u344 u345 u346 u347 u348 u349 u350 u351 u352 u353 u354 u355 u356 u357 u358 u359 u360 u361 u362 u363 u364 u365 u366 u367 u368 u369 u370 u371 u372 u373 u374 u375 u376 u377 u378 u379 u380 u381 u382 u383 u384 u385 u386 u387 u388 u389 u390 u391 u392 u393 u394 u395 u396 u397 u398 u399 u400 u401 u402 u403 u404 u405 u406 u407 u408 u409 u410 u411 u412 u413 u414 u415 u416 u417 u418 u419 u420 u421 u422 u423 u424 u425 u426 u427 u428 u429 u430 u431 u432 u433 u434 u435 : Value}
    (hB : Below w.heap.size w W) (HT : W.heap[gT]? = some (.cells #[.int .i64 ta, .int .i64 tb] 24 (0, 0))) (HX : W.heap[gX]? = some (.cells #[.int .i64 nx, .int .i64 dx] 26 (0, 0))) (HY : W.heap[gY]? = some (.cells #[.int .i64 ny, .int .i64 dy] 26 (0, 0))) (HP : W.heap[gP]? = some (.cells #[.int .i64 p1, .int .i64 p2] 26 (0, 0))) (HZ : W.heap[gZ]? = some (.cells #[.int .i64 z1, .int .i64 z2] 26 (0, 0))) (HR : W.heap[gR]? = some (.cells #[.int .i64 ra, .int .i64 rb] 35 (0, 0)))
    (F3 : (ok = true → seven = true → ta.tmod 3 = 0 → ∃ (kn kd hn hd : Int) (done : Bool) (sn sd : Int) (right : Bool) (L : List P3) (there : Bool), RetC 8 #[.agg #[.int .i64 ta, .int .i64 tb], .agg #[.int .i64 p1, .int .i64 p2], .agg #[.int .i64 z1, .int .i64 z2]] (.tuple #[.agg #[.int .i64 kn, .int .i64 kd], .agg #[.int .i64 hn, .int .i64 hd], .bool done]) ∧ RetC 9 #[.agg #[.int .i64 ta, .int .i64 tb], .agg #[.int .i64 p1, .int .i64 p2], .agg #[.int .i64 z1, .int .i64 z2]] (.tuple #[.agg #[.int .i64 kn, .int .i64 kd], .agg #[.int .i64 hn, .int .i64 hd], .bool done]) ∧ RetC 17 #[.agg #[.int .i64 nx, .int .i64 dx], .agg #[.int .i64 mv, .int .i64 1]] (.tuple #[.agg #[.int .i64 sn, .int .i64 sd], .bool right]) ∧ (∀ W, Calls Tryz.prog 18 #[.agg #[.int .i64 ra, .int .i64 rb], .agg #[.int .i64 sn, .int .i64 sd]] W (NewX W 3 L.length (flat3 L) there)) ∧ L.length ≤ 2 ∧ ∀ i, i < L.length → ∀ X Y E : Int, L[i]?.getD (0, 0, 0) = (X, Y, E) → (1 ≤ E ∧ E ≤ 20) ∧ ∃ (fn fd : Int) (sure : Bool) (wx wy we : Int) (had : Bool) (m1 m2 : Int) (all : Bool) (x1 x2 : Int) (one : Bool) (y1 y2 : Int) (two : Bool), RetC 19 #[.int .i64 Y, .int .i64 (E * E * E)] (.tuple #[.agg #[.int .i64 fn, .int .i64 fd], .bool sure]) ∧ RetC 20 #[.agg #[.int .i64 ra, .int .i64 rb], .agg #[.int .i64 X, .int .i64 Y, .int .i64 E]] (.tuple #[.agg #[.int .i64 wx, .int .i64 wy, .int .i64 we], .bool had]) ∧ RetC 21 #[.agg #[.int .i64 ra, .int .i64 rb], .agg #[.int .i64 X, .int .i64 Y, .int .i64 E]] (.tuple #[.agg #[.int .i64 wx, .int .i64 wy, .int .i64 we], .bool had]) ∧ (had = true → 0 ≤ we ∧ we ≤ 20) ∧ RetC 17 #[.agg #[.int .i64 kn, .int .i64 kd], .agg #[.int .i64 mv, .int .i64 1]] (.tuple #[.agg #[.int .i64 m1, .int .i64 m2], .bool all]) ∧ RetC 19 #[.int .i64 wx, .int .i64 (we * we)] (.tuple #[.agg #[.int .i64 x1, .int .i64 x2], .bool one]) ∧ RetC 19 #[.int .i64 wy, .int .i64 (we * we * we)] (.tuple #[.agg #[.int .i64 y1, .int .i64 y2], .bool two]) ∧ (right = true → there = true → sure = true → fn = ny → fd = dy → done = true → had = true → 0 < we → all = true → one = true → two = true → m1 = x1 ∧ m2 = x2 ∧ hn = y1 ∧ hd = y2)))
    : Code.wp Tryz.prog (dropTo 24 (bodyOf Tryz.f3)) (bodyPost Tryz.prog Tryz.f3 fun e w' => e = .returned (.bool true) ∧ Below w.heap.size w w') { tmps := #[u0, u1, u2, u3, u4, .pointer (some ⟨gT, 0, none⟩), .pointer (some ⟨gX, 0, none⟩), .pointer (some ⟨gY, 0, none⟩), u8, u9, .bool ok, .pointer (some ⟨gP, 0, none⟩), .pointer (some ⟨gZ, 0, none⟩), u13, u14, u15, u16, u17, u18, u19, u20, u21, u22, u23, u24, u25, u26, u27, u28, u29, u30, u31, u32, u33, u34, .bool seven, .pointer (some ⟨gR, 0, none⟩), .int .i64 mv, u38, u39, u40, u41, u42, u43, u44, u45, u46, u47, u48, u49, u50, u51, u52, u53, u54, u55, u56, u57, u58, u59, u60, u61, u62, u63, u64, u65, u66, u67, u68, u69, u70, u71, u72, u73, u74, u75, u76, u77, u78, u79, u80, u81, u82, u83, u84, u85, u86, u87, u88, u89, u90, u91, u92, u93, u94, u95, u96, u97, u98, u99, u100, u101, u102, u103, u104, u105, u106, u107, u108, u109, u110, u111, u112, u113, u114, u115, u116, u117, u118, u119, u120, u121, u122, u123, u124, u125, u126, u127, u128, u129, u130, u131, u132, u133, u134, u135, u136, u137, u138, u139, u140, u141, u142, u143, u144, u145, u146, u147, u148, u149, u150, u151, u152, u153, u154, u155, u156, u157, u158, u159, u160, u161, u162, u163, u164, u165, u166, u167, u168, u169, u170, u171, u172, u173, u174, u175, u176, u177, u178, u179, u180, u181, u182, u183, u184, u185, u186, u187, u188, u189, u190, u191, u192, u193, u194, u195, u196, u197, u198, u199, u200, u201, u202, u203, u204, u205, u206, u207, u208, u209, u210, u211, u212, u213, u214, u215, u216, u217, u218, u219, u220, u221, u222, u223, u224, u225, u226, u227, u228, u229, u230, u231, u232, u233, u234, u235, u236, u237, u238, u239, u240, u241, u242, u243, u244, u245, u246, u247, u248, u249, u250, u251, u252, u253, u254, u255, u256, u257, u258, u259, u260, u261, u262, u263, u264, u265, u266, u267, u268, u269, u270, u271, u272, u273, u274, u275, u276, u277, u278, u279, u280, u281, u282, u283, u284, u285, u286, u287, u288, u289, u290, u291, u292, u293, u294, u295, u296, u297, u298, u299, u300, u301, u302, u303, u304, u305, u306, u307, u308, u309, u310, u311, u312, u313, u314, u315, u316, u317, u318, u319, u320, u321, u322, u323, u324, u325, u326, u327, u328, u329, u330, u331, u332, u333, u334, u335, u336, u337, u338, u339, u340, u341, u342, u343, u344, u345, u346, u347, u348, u349, u350, u351, u352, u353, u354, u355, u356, u357, u358, u359, u360, u361, u362, u363, u364, u365, u366, u367, u368, u369, u370, u371, u372, u373, u374, u375, u376, u377, u378, u379, u380, u381, u382, u383, u384, u385, u386, u387, u388, u389, u390, u391, u392, u393, u394, u395, u396, u397, u398, u399, u400, u401, u402, u403, u404, u405, u406, u407, u408, u409, u410, u411, u412, u413, u414, u415, u416, u417, u418, u419, u420, u421, u422, u423, u424, u425, u426, u427, u428, u429, u430, u431, u432, u433, u434, u435], defers := [] } W := by
  replace F3 := Lib.hid F3
  have tok3 := trivial
  have tok4 := trivial
  have tok5 := trivial
  have tok6 := trivial
  have tok9 := trivial
  have tok10 := trivial
  have tok11 := trivial
  have tok12 := trivial
  have tok13 := trivial
  have tok14 := trivial
  have tok15 := trivial
  have tok16 := trivial
  conv in dropTo _ _ => whnf
  dsimp only
  refine chk (fun W => Below w.heap.size w W ∧ W.heap[gT]? = some (.cells #[.int .i64 ta, .int .i64 tb] 24 (0, 0)) ∧ W.heap[gX]? = some (.cells #[.int .i64 nx, .int .i64 dx] 26 (0, 0)) ∧ W.heap[gY]? = some (.cells #[.int .i64 ny, .int .i64 dy] 26 (0, 0)) ∧ W.heap[gP]? = some (.cells #[.int .i64 p1, .int .i64 p2] 26 (0, 0)) ∧ W.heap[gZ]? = some (.cells #[.int .i64 z1, .int .i64 z2] 26 (0, 0)) ∧ W.heap[gR]? = some (.cells #[.int .i64 ra, .int .i64 rb] 35 (0, 0))) (by refine ⟨?_, ?_, ?_, ?_, ?_, ?_, ?_⟩ <;> (exact ck)) ?_
  rintro w2 ⟨hB2, jq, jr, qb, jt, ju, qc⟩
  obtain ⟨nm, np, Vi, Kq⟩ := bk2 jq
  replace jq := Lib.hid jq
  obtain ⟨nr, ns, Vj, Kr⟩ := bk2 jr
  replace jr := Lib.hid jr
  obtain ⟨vr, vt, wi, Vk⟩ := bk2 qb
  replace qb := Lib.hid qb
  obtain ⟨nt, nu, Vl, Ks⟩ := bk2 jt
  replace jt := Lib.hid jt
  obtain ⟨nz, ma, Vm, Kt⟩ := bk2 ju
  replace ju := Lib.hid ju
  obtain ⟨vu, vv, wj, Vo⟩ := bk2 qc
  replace qc := Lib.hid qc
  clear hB HT HX HY HP HZ HR
  have sz2 := hB2.size
  cases ok
  · as_aux_lemma =>
      go_wp2_with fail
      go_ret
      refine ⟨rfl, ?_⟩
      exact bel
  cases seven
  · as_aux_lemma =>
      go_wp2_with fail
      go_ret
      refine ⟨rfl, ?_⟩
      exact bel
  by_cases h3 : ta.tmod 3 = 0
  rotate_left
  · have h3c : (ta.tmod 3 == 0) = false := by simpa using h3
    as_aux_lemma =>
      go_wp2_with fail
      go_ret
      refine ⟨rfl, ?_⟩
      exact bel
  have h3c : (ta.tmod 3 == 0) = true := by simpa using h3
  obtain ⟨kn, kd, hn, hd, done, sn, sd, right, L, there, R3, R4, R5, R6, hL2, FP⟩ := F3.out rfl rfl h3
  have T3 := fun W : World => Lib.hid (R3 W)
  have T4 := fun W : World => Lib.hid (R4 W)
  have T5 := fun W : World => Lib.hid (R5 W)
  have T6 := fun W : World => Lib.hid (R6 W)
  replace FP := Lib.hid FP
  clear F3 R3 R4 R5 R6 h3
  go_upto_region 26 with (first | (have _t := tok3; go_at_call 8; (with_reducible refine ((T3 _).out).mono ?_); rintro e w3 ⟨rfl, hb3⟩; clear tok3 _t; have hz3 := hb3.size; (try simp only [sA, sB, sC, sD] at hz3)))
  have jv := (hb3.block (gT) (blk_lt' jq.out)).trans jq.out
  clear nm np Vi jq
  obtain ⟨mb, mc, Vp, Ku⟩ := bk2 jv
  replace jv := Lib.hid jv
  have jw := (hb3.block (gX) (blk_lt' jr.out)).trans jr.out
  clear nr ns Vj jr
  obtain ⟨me, mf, Vq, Kv⟩ := bk2 jw
  replace jw := Lib.hid jw
  have jx := (hb3.block (gY) (blk_lt' qb.out)).trans qb.out
  clear vr vt wi qb
  obtain ⟨mg, mh, Vr, Kw⟩ := bk2 jx
  replace jx := Lib.hid jx
  have jy := (hb3.block (gP) (blk_lt' jt.out)).trans jt.out
  clear nt nu Vl jt
  obtain ⟨mi, mj, Vs, Kx⟩ := bk2 jy
  replace jy := Lib.hid jy
  have jz := (hb3.block (gZ) (blk_lt' ju.out)).trans ju.out
  clear nz ma Vm ju
  obtain ⟨ml, mn, Vt, Ky⟩ := bk2 jz
  replace jz := Lib.hid jz
  have ya := (hb3.block (gR) (blk_lt' qc.out)).trans qc.out
  clear vu vv wj qc
  obtain ⟨mo, mp, Vu, Kz⟩ := bk2 ya
  replace ya := Lib.hid ya
  have hB3 : Below w.heap.size w w3 := below_via hb3 (by assumption) (by first | exact hB2.size | go_size)
  clear hb3 T3
  replace jv := jv.out
  replace jw := jw.out
  replace jx := jx.out
  replace jy := jy.out
  replace jz := jz.out
  replace ya := ya.out
  refine chk (fun W => Below w.heap.size w W ∧ W.heap[gT]? = some (.cells #[.int .i64 ta, .int .i64 tb] 24 (0, 0)) ∧ W.heap[gX]? = some (.cells #[.int .i64 nx, .int .i64 dx] 26 (0, 0)) ∧ W.heap[gY]? = some (.cells #[.int .i64 ny, .int .i64 dy] 26 (0, 0)) ∧ W.heap[gP]? = some (.cells #[.int .i64 p1, .int .i64 p2] 26 (0, 0)) ∧ W.heap[gZ]? = some (.cells #[.int .i64 z1, .int .i64 z2] 26 (0, 0)) ∧ W.heap[gR]? = some (.cells #[.int .i64 ra, .int .i64 rb] 35 (0, 0)) ∧ W.heap[w3.heap.size]? = some (.cells #[.int .i64 kn, .int .i64 kd] 26 (0, 0)) ∧ W.heap[w3.heap.size + 1]? = some (.cells #[.int .i64 hn, .int .i64 hd] 26 (0, 0))) (by refine ⟨?_, ?_, ?_, ?_, ?_, ?_, ?_, ?_, ?_⟩ <;> (exact ck)) ?_
  clear mb mc Vp jv
  clear me mf Vq jw
  clear mg mh Vr jx
  clear mi mj Vs jy
  clear ml mn Vt jz
  clear mo mp Vu ya
  clear hB3
  rintro w20 ⟨hB20, qg, qh, qi, qj, qk, ql, qm, qp⟩
  obtain ⟨wl, wm, Zi, Um⟩ := bk2 qg
  replace qg := Lib.hid qg
  obtain ⟨wn, wo, Zj, Un⟩ := bk2 qh
  replace qh := Lib.hid qh
  obtain ⟨wq, ws, Zk, Uo⟩ := bk2 qi
  replace qi := Lib.hid qi
  obtain ⟨wt, wu, Zl, Up⟩ := bk2 qj
  replace qj := Lib.hid qj
  obtain ⟨wv, ww, Zm, Uq⟩ := bk2 qk
  replace qk := Lib.hid qk
  obtain ⟨wz, ua, Zn, Ur⟩ := bk2 ql
  replace ql := Lib.hid ql
  obtain ⟨ub, uc, Zo, Us⟩ := bk2 qm
  replace qm := Lib.hid qm
  obtain ⟨ue, uf, Zp, Ut⟩ := bk2 qp
  replace qp := Lib.hid qp
  clear sz2 h3c
  have sz20 := hB20.size
  go_upto_region 27 with (first | (have _t := tok4; go_at_call 9; (with_reducible refine ((T4 _).out).mono ?_); rintro e w4 ⟨rfl, hb4⟩; clear tok4 _t; have hz4 := hb4.size; (try simp only [sA, sB, sC, sD] at hz4)))
  have yb := (hb4.block (gT) (blk_lt' qg.out)).trans qg.out
  clear wl wm Zi qg
  obtain ⟨mq, mr, Vv, Pa⟩ := bk2 yb
  replace yb := Lib.hid yb
  have yc := (hb4.block (gX) (blk_lt' qh.out)).trans qh.out
  clear wn wo Zj qh
  obtain ⟨ms, mt, Vw, Pb⟩ := bk2 yc
  replace yc := Lib.hid yc
  have ye := (hb4.block (gY) (blk_lt' qi.out)).trans qi.out
  clear wq ws Zk qi
  obtain ⟨mu, mw, Vx, Pc⟩ := bk2 ye
  replace ye := Lib.hid ye
  have yf := (hb4.block (gP) (blk_lt' qj.out)).trans qj.out
  clear wt wu Zl qj
  obtain ⟨mx, my, Vy, Pd⟩ := bk2 yf
  replace yf := Lib.hid yf
  have yg := (hb4.block (gZ) (blk_lt' qk.out)).trans qk.out
  clear wv ww Zm qk
  obtain ⟨mz, Qa, Vz, Pe⟩ := bk2 yg
  replace yg := Lib.hid yg
  have yh := (hb4.block (gR) (blk_lt' ql.out)).trans ql.out
  clear wz ua Zn ql
  obtain ⟨Qb, Qc, Wa, Pf⟩ := bk2 yh
  replace yh := Lib.hid yh
  have yi := (hb4.block (w3.heap.size) (blk_lt' qm.out)).trans qm.out
  clear ub uc Zo qm
  obtain ⟨Qd, Qe, Wb, Pg⟩ := bk2 yi
  replace yi := Lib.hid yi
  have yj := (hb4.block (w3.heap.size + 1) (blk_lt' qp.out)).trans qp.out
  clear ue uf Zp qp
  obtain ⟨Qf, Qg, Wc, Ph⟩ := bk2 yj
  replace yj := Lib.hid yj
  have hB4 : Below w.heap.size w w4 := below_via hb4 (by assumption) (by first | exact hB20.size | go_size)
  clear hb4 T4
  replace yb := yb.out
  replace yc := yc.out
  replace ye := ye.out
  replace yf := yf.out
  replace yg := yg.out
  replace yh := yh.out
  replace yi := yi.out
  replace yj := yj.out
  refine chk (fun W => Below w.heap.size w W ∧ W.heap[gT]? = some (.cells #[.int .i64 ta, .int .i64 tb] 24 (0, 0)) ∧ W.heap[gX]? = some (.cells #[.int .i64 nx, .int .i64 dx] 26 (0, 0)) ∧ W.heap[gY]? = some (.cells #[.int .i64 ny, .int .i64 dy] 26 (0, 0)) ∧ W.heap[gP]? = some (.cells #[.int .i64 p1, .int .i64 p2] 26 (0, 0)) ∧ W.heap[gZ]? = some (.cells #[.int .i64 z1, .int .i64 z2] 26 (0, 0)) ∧ W.heap[gR]? = some (.cells #[.int .i64 ra, .int .i64 rb] 35 (0, 0)) ∧ W.heap[w3.heap.size]? = some (.cells #[.int .i64 kn, .int .i64 kd] 26 (0, 0)) ∧ W.heap[w3.heap.size + 1]? = some (.cells #[.int .i64 hn, .int .i64 hd] 26 (0, 0)) ∧ W.heap[w4.heap.size]? = some (.cells #[.int .i64 kn, .int .i64 kd] 26 (0, 0)) ∧ W.heap[w4.heap.size + 1]? = some (.cells #[.int .i64 hn, .int .i64 hd] 26 (0, 0))) (by refine ⟨?_, ?_, ?_, ?_, ?_, ?_, ?_, ?_, ?_, ?_, ?_⟩ <;> (exact ck)) ?_
  clear mq mr Vv yb
  clear ms mt Vw yc
  clear mu mw Vx ye
  clear mx my Vy yf
  clear mz Qa Vz yg
  clear Qb Qc Wa yh
  clear Qd Qe Wb yi
  clear Qf Qg Wc yj
  clear hB4
  rintro w21 ⟨hB21, qq, qr, qt, qu, qw, qz, xa, xb, xc, qa⟩
  obtain ⟨ug, uh, Zq, Uu⟩ := bk2 qq
  replace qq := Lib.hid qq
  obtain ⟨ui, uj, Zr, Uv⟩ := bk2 qr
  replace qr := Lib.hid qr
  obtain ⟨uk, ul, Zs, Uw⟩ := bk2 qt
  replace qt := Lib.hid qt
  obtain ⟨um, uq, Zt, Ux⟩ := bk2 qu
  replace qu := Lib.hid qu
  obtain ⟨ur, us, Zu, Uy⟩ := bk2 qw
  replace qw := Lib.hid qw
  obtain ⟨ut, uw, Zv, Uz⟩ := bk2 qz
  replace qz := Lib.hid qz
  obtain ⟨ux, uy, Zw, Ga⟩ := bk2 xa
  replace xa := Lib.hid xa
  obtain ⟨uz, gc, Zx, Gb⟩ := bk2 xb
  replace xb := Lib.hid xb
  obtain ⟨gd, ge, Zy, Gc⟩ := bk2 xc
  replace xc := Lib.hid xc
  obtain ⟨vp, vq, vw, Zz⟩ := bk2 qa
  replace qa := Lib.hid qa
  clear sz20
  have sz21 := hB21.size
  have E1 := fun W => neqFr_same kn kd W
  have E2 := fun W => neqFr_same hn hd W
  have g1 : (done != done) = false := by simp
  go_cut [307] (fun sq wx => sq = .bool false ∧ w21 = wx)
  case first =>
    as_aux_lemma =>
      clear T5 T6 FP
      go_wp2_with fail
      go_meet
      exact ⟨by first | rfl | simp, rfl⟩
  case rest =>
  as_aux_lemma =>
    obtain ⟨rfl, hcw⟩ := hcut
    subst hcw
    clear E1 E2 g1
    go_upto_region 30 with (first | (have _t := tok5; go_at_call 17; (with_reducible refine ((T5 _).out).mono ?_); rintro e w5 ⟨rfl, hb5⟩; clear tok5 _t; have hz5 := hb5.size; (try simp only [sA, sB, sC, sD] at hz5)))
    have yk := (hb5.block (gT) (blk_lt' qq.out)).trans qq.out
    clear ug uh Zq qq
    obtain ⟨Qh, Qi, We, Pi⟩ := bk2 yk
    replace yk := Lib.hid yk
    have yl := (hb5.block (gX) (blk_lt' qr.out)).trans qr.out
    clear ui uj Zr qr
    obtain ⟨Qj, Qk, Wf, Pj⟩ := bk2 yl
    replace yl := Lib.hid yl
    have ym := (hb5.block (gY) (blk_lt' qt.out)).trans qt.out
    clear uk ul Zs qt
    obtain ⟨Ql, Qm, Wg, Pk⟩ := bk2 ym
    replace ym := Lib.hid ym
    have yp := (hb5.block (gP) (blk_lt' qu.out)).trans qu.out
    clear um uq Zt qu
    obtain ⟨Qn, Qo, Wh, Pm⟩ := bk2 yp
    replace yp := Lib.hid yp
    have yq := (hb5.block (gZ) (blk_lt' qw.out)).trans qw.out
    clear ur us Zu qw
    obtain ⟨Qp, Qq, Wi, Pn⟩ := bk2 yq
    replace yq := Lib.hid yq
    have yr := (hb5.block (gR) (blk_lt' qz.out)).trans qz.out
    clear ut uw Zv qz
    obtain ⟨Qr, Qs, Wj, Po⟩ := bk2 yr
    replace yr := Lib.hid yr
    have yt := (hb5.block (w3.heap.size) (blk_lt' xa.out)).trans xa.out
    clear ux uy Zw xa
    obtain ⟨Qt, Qu, Wk, Pp⟩ := bk2 yt
    replace yt := Lib.hid yt
    have yu := (hb5.block (w3.heap.size + 1) (blk_lt' xb.out)).trans xb.out
    clear uz gc Zx xb
    obtain ⟨Qv, Qw, Wl, Pq⟩ := bk2 yu
    replace yu := Lib.hid yu
    have yv := (hb5.block (w4.heap.size) (blk_lt' xc.out)).trans xc.out
    clear gd ge Zy xc
    obtain ⟨Qx, Qy, Wm, Pr⟩ := bk2 yv
    replace yv := Lib.hid yv
    have yw := (hb5.block (w4.heap.size + 1) (blk_lt' qa.out)).trans qa.out
    clear vp vq vw qa
    obtain ⟨Qz, Xa, Wo, Ps⟩ := bk2 yw
    replace yw := Lib.hid yw
    have hB5 : Below w.heap.size w w5 := below_via hb5 (by assumption) (by first | exact hB21.size | go_size)
    clear hb5 T5
    replace yk := yk.out
    replace yl := yl.out
    replace ym := ym.out
    replace yp := yp.out
    replace yq := yq.out
    replace yr := yr.out
    replace yt := yt.out
    replace yu := yu.out
    replace yv := yv.out
    replace yw := yw.out
    refine chk (fun W => Below w.heap.size w W ∧ W.heap[gY]? = some (.cells #[.int .i64 ny, .int .i64 dy] 26 (0, 0)) ∧ W.heap[gR]? = some (.cells #[.int .i64 ra, .int .i64 rb] 35 (0, 0)) ∧ W.heap[w4.heap.size]? = some (.cells #[.int .i64 kn, .int .i64 kd] 26 (0, 0)) ∧ W.heap[w4.heap.size + 1]? = some (.cells #[.int .i64 hn, .int .i64 hd] 26 (0, 0)) ∧ W.heap[w5.heap.size]? = some (.cells #[.int .i64 sn, .int .i64 sd] 26 (0, 0))) (by refine ⟨?_, ?_, ?_, ?_, ?_, ?_⟩ <;> (exact ck)) ?_
    clear Qh Qi We yk
    clear Qj Qk Wf yl
    clear Ql Qm Wg ym
    clear Qn Qo Wh yp
    clear Qp Qq Wi yq
    clear Qr Qs Wj yr
    clear Qt Qu Wk yt
    clear Qv Qw Wl yu
    clear Qx Qy Wm yv
    clear Qz Xa Wo yw
    clear hB5
    rintro w22 ⟨hB22, xe, xf, xg, qf, xh⟩
    obtain ⟨gf, gg, Ja, Gd⟩ := bk2 xe
    replace xe := Lib.hid xe
    obtain ⟨gh, gi, Jb, Ge⟩ := bk2 xf
    replace xf := Lib.hid xf
    obtain ⟨gj, gk, Jc, Gf⟩ := bk2 xg
    replace xg := Lib.hid xg
    obtain ⟨vx, vy, wk, Jd⟩ := bk2 qf
    replace qf := Lib.hid qf
    obtain ⟨gl, gm, Je, Gg⟩ := bk2 xh
    replace xh := Lib.hid xh
    clear sz21
    have sz22 := hB22.size
    go_upto_region 31 with (first | (have _t := tok6; go_at_call 18; (with_reducible refine ((T6 _).out).mono ?_); rintro e w6 ⟨v6, B6, rfl, hx6, hs6, hb6⟩; clear tok6 _t; have hz6 := hb6.size; (try simp only [sA, sB, sC, sD] at hz6); obtain ⟨a49, c49, rfl⟩ := hx6.shape))
    have yx := (hb6.block (gY) (blk_lt' xe.out)).trans xe.out
    clear gf gg Ja xe
    obtain ⟨Xb, Xc, Wp, Pt⟩ := bk2 yx
    replace yx := Lib.hid yx
    have yz := (hb6.block (gR) (blk_lt' xf.out)).trans xf.out
    clear gh gi Jb xf
    obtain ⟨Xd, Xe, Wq, Pu⟩ := bk2 yz
    replace yz := Lib.hid yz
    have va := (hb6.block (w4.heap.size) (blk_lt' xg.out)).trans xg.out
    clear gj gk Jc xg
    obtain ⟨Xf, Xg, Wr, Pv⟩ := bk2 va
    replace va := Lib.hid va
    have vb := (hb6.block (w4.heap.size + 1) (blk_lt' qf.out)).trans qf.out
    clear vx vy wk qf
    obtain ⟨Xh, Xi, Ws, Pw⟩ := bk2 vb
    replace vb := Lib.hid vb
    have vc := (hb6.block (w5.heap.size) (blk_lt' xh.out)).trans xh.out
    clear gl gm Je xh
    obtain ⟨Xj, Xk, Wt, Px⟩ := bk2 vc
    replace vc := Lib.hid vc
    have hB6 : Below w.heap.size w w6 := below_via hb6 (by assumption) (by first | exact hB22.size | go_size)
    have sz6 := hb6.size
    clear hb6 T6
    go_upto_region 32 with fail
    replace yx := yx.out
    replace yz := yz.out
    replace va := va.out
    replace vb := vb.out
    replace vc := vc.out
    refine chk (fun W => Below w.heap.size w W ∧ W.heap[gY]? = some (.cells #[.int .i64 ny, .int .i64 dy] 26 (0, 0)) ∧ W.heap[gR]? = some (.cells #[.int .i64 ra, .int .i64 rb] 35 (0, 0)) ∧ W.heap[w4.heap.size]? = some (.cells #[.int .i64 kn, .int .i64 kd] 26 (0, 0)) ∧ W.heap[w4.heap.size + 1]? = some (.cells #[.int .i64 hn, .int .i64 hd] 26 (0, 0)) ∧ SlX W B6 3 (.slice a49 L.length c49) L.length (flat3 L)) (by refine ⟨?_, ?_, ?_, ?_, ?_, ?_⟩ <;> (exact ck)) ?_
    clear Xb Xc Wp yx
    clear Xd Xe Wq yz
    clear Xf Xg Wr va
    clear Xh Xi Ws vb
    clear Xj Xk Wt vc
    clear hB6
    rintro w2 ⟨hB2, qb, qc, vd, vf, hS2⟩
    obtain ⟨vr, vt, wi, Vk⟩ := bk2 qb
    replace qb := Lib.hid qb
    obtain ⟨vu, vv, wj, Vo⟩ := bk2 qc
    replace qc := Lib.hid qc
    obtain ⟨Xl, Xm, Wu, Py⟩ := bk2 vd
    replace vd := Lib.hid vd
    obtain ⟨Xn, Xo, Wv, Pz⟩ := bk2 vf
    replace vf := Lib.hid vf
    clear hx6 sz22
    have sz2 := hB2.size
    have HFL := Lib.hid (flat3_at L)
    obtain ⟨n49, hL⟩ : ∃ n49, L.length = n49 := ⟨_, rfl⟩
    rw [hL] at hS2 hL2 ⊢
    generalize w4.heap.size = gM at *
    generalize hgN : gM + 1 = gN at *
    clear hgN
    go_loopw [323] (fun iv wr => ∃ k : Nat, k ≤ n49 ∧ iv = .int .i64 k ∧ Below w2.heap.size w2 wr) (fun iv _ => (n49 - intOf iv).toNat)
    case atStart => exact ⟨0, by omega, rfl, Below.refl _ _⟩
    case round =>
      as_aux_lemma =>
        obtain ⟨k, hk, rfl, hb8⟩ := hrel
        rename World => w8
        have vg := (hb8.block (gY) (blk_lt' qb.out)).trans qb.out
        clear vr vt wi qb
        obtain ⟨Xp, Xq, Ww, Da⟩ := bk2 vg
        replace vg := Lib.hid vg
        have vh := (hb8.block (gR) (blk_lt' qc.out)).trans qc.out
        clear vu vv wj qc
        obtain ⟨Xr, Xs, Wy, Db⟩ := bk2 vh
        replace vh := Lib.hid vh
        have vi := (hb8.block (gM) (blk_lt' vd.out)).trans vd.out
        clear Xl Xm Wu vd
        obtain ⟨Xt, Xu, Wz, Dc⟩ := bk2 vi
        replace vi := Lib.hid vi
        have vj := (hb8.block (gN) (blk_lt' vf.out)).trans vf.out
        clear Xn Xo Wv vf
        obtain ⟨Xv, Xw, Ua, Dd⟩ := bk2 vj
        replace vj := Lib.hid vj
        have hB8 : Below w.heap.size w w8 := below_via hb8 (by assumption) (by first | exact hB2.size | go_size)
        have sz8 := hb8.size
        have hx8 := hS2.via hb8
        by_cases hkn : k < n49
        · have hkc : (k : Int) < (n49 : Int) := by omega
          obtain ⟨⟨ex, ey, ee⟩, hE⟩ : ∃ z, L[k]?.getD (0, 0, 0) = z := ⟨_, rfl⟩
          obtain ⟨e1, e2, e3⟩ := HFL.out k (by omega)
          rw [hE] at e1 e2 e3
          dsimp only at e1 e2 e3
          obtain ⟨be, fn, fd, sure, wx, wy, we, had, m1, m2, all, x1, x2, one, y1, y2, two, R10, R11, R12, bw, R14, R15, R16, hall⟩ := FP.out k (by omega) ex ey ee hE
          replace hall := Lib.hid hall
          replace bw := Lib.hid bw
          obtain ⟨-, ⟨ee0, ee1⟩ | ⟨gx, cx, ee0, -, -, -, hr⟩⟩ := hx8
          · omega
          simp only [Value.slice.injEq] at ee0
          obtain ⟨rfl, -, rfl⟩ := ee0
          have c0 := (hr.2 (k * 3) (by rw [flat3_len]; omega)).1
          have c1 := (hr.2 (k * 3 + 1) (by rw [flat3_len]; omega)).1
          have c2 := (hr.2 (k * 3 + 2) (by rw [flat3_len]; omega)).1
          rw [e1] at c0
          rw [e2] at c1
          rw [e3] at c2
          have T10 := fun W : World => Lib.hid (R10 W)
          have T11 := fun W : World => Lib.hid (R11 W)
          have T12 := fun W : World => Lib.hid (R12 W)
          have T14 := fun W : World => Lib.hid (R14 W)
          have T15 := fun W : World => Lib.hid (R15 W)
          have T16 := fun W : World => Lib.hid (R16 W)
          have m1_ := mul_bd (a := ee) (b := ee) (A := 20) (B := 20) (by omega) (by omega)
          have m2_ := mul_bd (a := ee * ee) (b := ee) (A := 400) (B := 20) (by omega) (by omega)
          clear R10 R11 R12 R14 R15 R16 e1 e2 e3 hE hr HFL FP
          go_upto_region 34 with fail
          replace vg := vg.out
          replace vh := vh.out
          replace vi := vi.out
          replace vj := vj.out
          refine chk (fun W => Below w.heap.size w W ∧ W.heap[gY]? = some (.cells #[.int .i64 ny, .int .i64 dy] 26 (0, 0)) ∧ W.heap[gR]? = some (.cells #[.int .i64 ra, .int .i64 rb] 35 (0, 0)) ∧ W.heap[gM]? = some (.cells #[.int .i64 kn, .int .i64 kd] 26 (0, 0)) ∧ W.heap[gN]? = some (.cells #[.int .i64 hn, .int .i64 hd] 26 (0, 0)) ∧ W.heap[w8.heap.size]? = some (.cells #[.int .i64 ex, .int .i64 ey, .int .i64 ee] 45 (0, 0)) ∧ Below w2.heap.size w2 W) (by refine ⟨?_, ?_, ?_, ?_, ?_, ?_, ?_⟩ <;> (exact ck)) ?_
          clear Xp Xq Ww vg
          clear Xr Xs Wy vh
          clear Xt Xu Wz vi
          clear Xv Xw Ua vj
          clear hB8
          rintro w9 ⟨hB9, vk, vl, vm, vn, vo, HQ⟩
          obtain ⟨Xx, Xy, Ub, De⟩ := bk2 vk
          replace vk := Lib.hid vk
          obtain ⟨Xz, Za, Uc, Df⟩ := bk2 vl
          replace vl := Lib.hid vl
          obtain ⟨Zb, Zc, Ud, Dg⟩ := bk2 vm
          replace vm := Lib.hid vm
          obtain ⟨Zd, Ze, Ue, Dh⟩ := bk2 vn
          replace vn := Lib.hid vn
          obtain ⟨Zf, Zg, Zh, Uf, Di⟩ := bk3 vo
          replace vo := Lib.hid vo
          clear c0 c1 c2
          have sz9 := hB9.size
          go_upto_region 35 with (first | (have _t := tok10; go_at_call 19; (with_reducible refine ((T10 _).out).mono ?_); rintro e w10 ⟨rfl, hb10⟩; clear tok10 _t; have hz10 := hb10.size; (try simp only [sA, sB, sC, sD] at hz10)))
          have xi := (hb10.block (gY) (blk_lt' vk.out)).trans vk.out
          clear Xx Xy Ub vk
          obtain ⟨gn, gp, Jf, Gh⟩ := bk2 xi
          replace xi := Lib.hid xi
          have xj := (hb10.block (gR) (blk_lt' vl.out)).trans vl.out
          clear Xz Za Uc vl
          obtain ⟨gr, gt, Jg, Gi⟩ := bk2 xj
          replace xj := Lib.hid xj
          have xk := (hb10.block (gM) (blk_lt' vm.out)).trans vm.out
          clear Zb Zc Ud vm
          obtain ⟨gu, gv, Jh, Gj⟩ := bk2 xk
          replace xk := Lib.hid xk
          have xl := (hb10.block (gN) (blk_lt' vn.out)).trans vn.out
          clear Zd Ze Ue vn
          obtain ⟨gy, gz, Ji, Gk⟩ := bk2 xl
          replace xl := Lib.hid xl
          have xm := (hb10.block (w8.heap.size) (blk_lt' vo.out)).trans vo.out
          clear Zf Zg Zh Uf vo
          obtain ⟨ka, kb, kc, Jj, Gl⟩ := bk3 xm
          replace xm := Lib.hid xm
          have hB10 : Below w.heap.size w w10 := below_via hb10 (by assumption) (by first | exact hB9.size | go_size)
          replace HQ := HQ.trans (hb10.mono HQ.size)
          have sQ := HQ.size
          clear hb10 T10
          replace xi := xi.out
          replace xj := xj.out
          replace xk := xk.out
          replace xl := xl.out
          replace xm := xm.out
          refine chk (fun W => Below w.heap.size w W ∧ W.heap[gY]? = some (.cells #[.int .i64 ny, .int .i64 dy] 26 (0, 0)) ∧ W.heap[gR]? = some (.cells #[.int .i64 ra, .int .i64 rb] 35 (0, 0)) ∧ W.heap[gM]? = some (.cells #[.int .i64 kn, .int .i64 kd] 26 (0, 0)) ∧ W.heap[gN]? = some (.cells #[.int .i64 hn, .int .i64 hd] 26 (0, 0)) ∧ W.heap[w8.heap.size]? = some (.cells #[.int .i64 ex, .int .i64 ey, .int .i64 ee] 45 (0, 0)) ∧ W.heap[w10.heap.size]? = some (.cells #[.int .i64 fn, .int .i64 fd] 26 (0, 0)) ∧ Below w2.heap.size w2 W) (by refine ⟨?_, ?_, ?_, ?_, ?_, ?_, ?_, ?_⟩ <;> (exact ck)) ?_
          clear gn gp Jf xi
          clear gr gt Jg xj
          clear gu gv Jh xk
          clear gy gz Ji xl
          clear ka kb kc Jj xm
          clear hB10
          rintro w17 ⟨hB17, xp, xq, xr, xt, xu, xv, HQ⟩
          obtain ⟨ke, kg, Jk, Gm⟩ := bk2 xp
          replace xp := Lib.hid xp
          obtain ⟨kh, ki, Jl, Gn⟩ := bk2 xq
          replace xq := Lib.hid xq
          obtain ⟨kj, kk, Jm, Gp⟩ := bk2 xr
          replace xr := Lib.hid xr
          obtain ⟨kl, kr, Jn, Gq⟩ := bk2 xt
          replace xt := Lib.hid xt
          obtain ⟨ks, kt, ku, Jo, Gr⟩ := bk3 xu
          replace xu := Lib.hid xu
          obtain ⟨kw, kx, Jp, Gs⟩ := bk2 xv
          replace xv := Lib.hid xv
          clear sz9
          have sz17 := hB17.size
          go_cut [359] (fun sq wx => ∃ g : Bool, sq = .bool g ∧ (g = false → right = true ∧ there = true ∧ sure = true ∧ fn = ny ∧ fd = dy ∧ done = true) ∧ w17 = wx)
          case first =>
              clear T11 T12 T14 T15 T16 hall bw
              cases right
              · as_aux_lemma =>
                  go_wp2_with fail
                  go_meet
                  exact ⟨true, rfl, by simp, rfl⟩
              cases there
              · as_aux_lemma =>
                  go_wp2_with fail
                  go_meet
                  exact ⟨true, rfl, by simp, rfl⟩
              cases sure
              · as_aux_lemma =>
                  go_wp2_with fail
                  go_meet
                  exact ⟨true, rfl, by simp, rfl⟩
              by_cases hq : fn = ny ∧ fd = dy
              · obtain ⟨rfl, rfl⟩ := hq
                have EQ := fun W => neqFr_same fn fd W
                cases done
                · as_aux_lemma =>
                    go_wp2_with fail
                    go_meet
                    exact ⟨true, rfl, by simp, rfl⟩
                · as_aux_lemma =>
                    go_wp2_with fail
                    go_meet
                    exact ⟨false, rfl, fun _ => by simp, rfl⟩
              · have EQ := fun W => neqFr_any fn fd ny dy hq W
                as_aux_lemma =>
                  go_wp2_with fail
                  go_meet
                  exact ⟨true, rfl, by simp, rfl⟩
          case rest =>
            obtain ⟨g, rfl, hg, hcw⟩ := hcut
            subst hcw
            cases g
            · as_aux_lemma =>
                obtain ⟨rfl, rfl, rfl, hfn, hfd, rfl⟩ := hg rfl
                replace hfn := Lib.hid hfn
                replace hfd := Lib.hid hfd
                clear hg
                go_upto_region 37 with (first | (have _t := tok11; go_at_call 20; (with_reducible refine ((T11 _).out).mono ?_); rintro e w11 ⟨rfl, hb11⟩; clear tok11 _t; have hz11 := hb11.size; (try simp only [sA, sB, sC, sD] at hz11)))
                have xw := (hb11.block (gY) (blk_lt' xp.out)).trans xp.out
                clear ke kg Jk xp
                obtain ⟨ky, kz, Jq, Gt⟩ := bk2 xw
                replace xw := Lib.hid xw
                have xx := (hb11.block (gR) (blk_lt' xq.out)).trans xq.out
                clear kh ki Jl xq
                obtain ⟨pa, pb, Jr, Gu⟩ := bk2 xx
                replace xx := Lib.hid xx
                have xy := (hb11.block (gM) (blk_lt' xr.out)).trans xr.out
                clear kj kk Jm xr
                obtain ⟨pc, pd, Js, Gv⟩ := bk2 xy
                replace xy := Lib.hid xy
                have xz := (hb11.block (gN) (blk_lt' xt.out)).trans xt.out
                clear kl kr Jn xt
                obtain ⟨pe, pf, Jt, Gw⟩ := bk2 xz
                replace xz := Lib.hid xz
                have za := (hb11.block (w8.heap.size) (blk_lt' xu.out)).trans xu.out
                clear ks kt ku Jo xu
                obtain ⟨pg, ph, pi, Ju, Gx⟩ := bk3 za
                replace za := Lib.hid za
                have zb := (hb11.block (w10.heap.size) (blk_lt' xv.out)).trans xv.out
                clear kw kx Jp xv
                obtain ⟨pj, pk, Jv, Gy⟩ := bk2 zb
                replace zb := Lib.hid zb
                have hB11 : Below w.heap.size w w11 := below_via hb11 (by assumption) (by first | exact hB17.size | go_size)
                replace HQ := HQ.trans (hb11.mono HQ.size)
                have sQ := HQ.size
                clear hb11 T11
                replace xw := xw.out
                replace xx := xx.out
                replace xy := xy.out
                replace xz := xz.out
                replace za := za.out
                replace zb := zb.out
                refine chk (fun W => Below w.heap.size w W ∧ W.heap[gY]? = some (.cells #[.int .i64 ny, .int .i64 dy] 26 (0, 0)) ∧ W.heap[gR]? = some (.cells #[.int .i64 ra, .int .i64 rb] 35 (0, 0)) ∧ W.heap[gM]? = some (.cells #[.int .i64 kn, .int .i64 kd] 26 (0, 0)) ∧ W.heap[gN]? = some (.cells #[.int .i64 hn, .int .i64 hd] 26 (0, 0)) ∧ W.heap[w8.heap.size]? = some (.cells #[.int .i64 ex, .int .i64 ey, .int .i64 ee] 45 (0, 0)) ∧ W.heap[w11.heap.size]? = some (.cells #[.int .i64 wx, .int .i64 wy, .int .i64 we] 45 (0, 0)) ∧ Below w2.heap.size w2 W) (by refine ⟨?_, ?_, ?_, ?_, ?_, ?_, ?_, ?_⟩ <;> (exact ck)) ?_
                clear ky kz Jq xw
                clear pa pb Jr xx
                clear pc pd Js xy
                clear pe pf Jt xz
                clear pg ph pi Ju za
                clear pj pk Jv zb
                clear hB11
                rintro w18 ⟨hB18, zc, zd, ze, zf, zg, zh, HQ⟩
                obtain ⟨pn, po, Jw, Gz⟩ := bk2 zc
                replace zc := Lib.hid zc
                obtain ⟨pp, pq, Jx, Ha⟩ := bk2 zd
                replace zd := Lib.hid zd
                obtain ⟨pr, pt, Jy, Hb⟩ := bk2 ze
                replace ze := Lib.hid ze
                obtain ⟨pu, pv, Jz, Hc⟩ := bk2 zf
                replace zf := Lib.hid zf
                obtain ⟨pw, px, dc, Ya, Hd⟩ := bk3 zg
                replace zg := Lib.hid zg
                obtain ⟨dd, de, df, Yb, He⟩ := bk3 zh
                replace zh := Lib.hid zh
                have sz18 := hB18.size
                go_upto_region 38 with (first | (have _t := tok12; go_at_call 21; (with_reducible refine ((T12 _).out).mono ?_); rintro e w12 ⟨rfl, hb12⟩; clear tok12 _t; have hz12 := hb12.size; (try simp only [sA, sB, sC, sD] at hz12)))
                have zi := (hb12.block (gY) (blk_lt' zc.out)).trans zc.out
                clear pn po Jw zc
                obtain ⟨dg, dh, Yc, Hf⟩ := bk2 zi
                replace zi := Lib.hid zi
                have zj := (hb12.block (gR) (blk_lt' zd.out)).trans zd.out
                clear pp pq Jx zd
                obtain ⟨di, dj, Yd, Hg⟩ := bk2 zj
                replace zj := Lib.hid zj
                have zk := (hb12.block (gM) (blk_lt' ze.out)).trans ze.out
                clear pr pt Jy ze
                obtain ⟨dk, dl, Ye, Hh⟩ := bk2 zk
                replace zk := Lib.hid zk
                have zl := (hb12.block (gN) (blk_lt' zf.out)).trans zf.out
                clear pu pv Jz zf
                obtain ⟨dm, dn, Yf, Hi⟩ := bk2 zl
                replace zl := Lib.hid zl
                have zm := (hb12.block (w8.heap.size) (blk_lt' zg.out)).trans zg.out
                clear pw px dc Ya zg
                obtain ⟨dp, dq, dr, Yg, Hj⟩ := bk3 zm
                replace zm := Lib.hid zm
                have zn := (hb12.block (w11.heap.size) (blk_lt' zh.out)).trans zh.out
                clear dd de df Yb zh
                obtain ⟨dt, du, dv, Yh, Hk⟩ := bk3 zn
                replace zn := Lib.hid zn
                have hB12 : Below w.heap.size w w12 := below_via hb12 (by assumption) (by first | exact hB18.size | go_size)
                replace HQ := HQ.trans (hb12.mono HQ.size)
                have sQ := HQ.size
                clear hb12 T12
                replace zi := zi.out
                replace zj := zj.out
                replace zk := zk.out
                replace zl := zl.out
                replace zm := zm.out
                replace zn := zn.out
                refine chk (fun W => Below w.heap.size w W ∧ W.heap[gY]? = some (.cells #[.int .i64 ny, .int .i64 dy] 26 (0, 0)) ∧ W.heap[gR]? = some (.cells #[.int .i64 ra, .int .i64 rb] 35 (0, 0)) ∧ W.heap[gM]? = some (.cells #[.int .i64 kn, .int .i64 kd] 26 (0, 0)) ∧ W.heap[gN]? = some (.cells #[.int .i64 hn, .int .i64 hd] 26 (0, 0)) ∧ W.heap[w11.heap.size]? = some (.cells #[.int .i64 wx, .int .i64 wy, .int .i64 we] 45 (0, 0)) ∧ W.heap[w12.heap.size]? = some (.cells #[.int .i64 wx, .int .i64 wy, .int .i64 we] 45 (0, 0)) ∧ Below w2.heap.size w2 W) (by refine ⟨?_, ?_, ?_, ?_, ?_, ?_, ?_, ?_⟩ <;> (exact ck)) ?_
                clear dg dh Yc zi
                clear di dj Yd zj
                clear dk dl Ye zk
                clear dm dn Yf zl
                clear dp dq dr Yg zm
                clear dt du dv Yh zn
                clear hB12
                rintro w19 ⟨hB19, zo, zp, zq, zr, zt, zu, HQ⟩
                obtain ⟨dw, fc, Yi, Hl⟩ := bk2 zo
                replace zo := Lib.hid zo
                obtain ⟨fe, ff, Yj, Hm⟩ := bk2 zp
                replace zp := Lib.hid zp
                obtain ⟨fg, fi, Yk, Hn⟩ := bk2 zq
                replace zq := Lib.hid zq
                obtain ⟨fj, fm, Yl, Ho⟩ := bk2 zr
                replace zr := Lib.hid zr
                obtain ⟨fo, fp, fv, Ym, Hp⟩ := bk3 zt
                replace zt := Lib.hid zt
                obtain ⟨fw, fz, bc, Yn, Hq⟩ := bk3 zu
                replace zu := Lib.hid zu
                clear sz18
                have sz19 := hB19.size
                have EP := fun W => neqPo_same wx wy we W
                have g1 : (had != had) = false := by simp
                go_cut [379] (fun sq wx => sq = .bool false ∧ w19 = wx)
                case first =>
                  as_aux_lemma =>
                    clear T14 T15 T16 hall bw
                    go_wp2_with fail
                    go_meet
                    exact ⟨by first | rfl | simp, rfl⟩
                case rest =>
                  obtain ⟨rfl, hcw⟩ := hcut
                  subst hcw
                  clear EP g1
                  cases had
                  · as_aux_lemma =>
                      go_wp2_with fail
                      go_roundw
                      case rel => first | exact ⟨k + 1, by omega, by first | rfl | go_num, by exact bel⟩ | ((repeat (with_reducible apply Exists.intro)); exact ⟨⟨k + 1, by omega, by first | rfl | go_num, by exact bel⟩, rfl⟩)
                      case measure => simp [intOf]; omega
                  · by_cases h0 : 0 < we
                    · as_aux_lemma =>
                        obtain ⟨b0, b20⟩ := bw.out rfl
                        clear bw
                        have m1_ := mul_bd (a := we) (b := we) (A := 20) (B := 20) (by omega) (by omega)
                        have m2_ := mul_bd (a := we * we) (b := we) (A := 400) (B := 20) (by omega) (by omega)
                        go_upto_region 42 with (first | (have _t := tok14; go_at_call 17; (with_reducible refine ((T14 _).out).mono ?_); rintro e w14 ⟨rfl, hb14⟩; clear tok14 _t; have hz14 := hb14.size; (try simp only [sA, sB, sC, sD] at hz14)))
                        have zv := (hb14.block (gY) (blk_lt' zo.out)).trans zo.out
                        clear dw fc Yi zo
                        obtain ⟨bd, bf, Yo, Hr⟩ := bk2 zv
                        replace zv := Lib.hid zv
                        have zw := (hb14.block (gR) (blk_lt' zp.out)).trans zp.out
                        clear fe ff Yj zp
                        obtain ⟨bg, bh, Yp, Hs⟩ := bk2 zw
                        replace zw := Lib.hid zw
                        have zx := (hb14.block (gM) (blk_lt' zq.out)).trans zq.out
                        clear fg fi Yk zq
                        obtain ⟨bi, bj, Yq, Ht⟩ := bk2 zx
                        replace zx := Lib.hid zx
                        have zy := (hb14.block (gN) (blk_lt' zr.out)).trans zr.out
                        clear fj fm Yl zr
                        obtain ⟨bk, bm, Yr, Hu⟩ := bk2 zy
                        replace zy := Lib.hid zy
                        have zz := (hb14.block (w11.heap.size) (blk_lt' zt.out)).trans zt.out
                        clear fo fp fv Ym zt
                        obtain ⟨bn, bp, br, Ys, Hv⟩ := bk3 zz
                        replace zz := Lib.hid zz
                        have jc := (hb14.block (w12.heap.size) (blk_lt' zu.out)).trans zu.out
                        clear fw fz bc Yn zu
                        obtain ⟨bs, bt, bu, Yt, Hw⟩ := bk3 jc
                        replace jc := Lib.hid jc
                        have hB14 : Below w.heap.size w w14 := below_via hb14 (by assumption) (by first | exact hB19.size | go_size)
                        replace HQ := HQ.trans (hb14.mono HQ.size)
                        have sQ := HQ.size
                        clear hb14 T14
                        replace zv := zv.out
                        replace zw := zw.out
                        replace zx := zx.out
                        replace zy := zy.out
                        replace zz := zz.out
                        replace jc := jc.out
                        refine chk (fun W => Below w.heap.size w W ∧ W.heap[gN]? = some (.cells #[.int .i64 hn, .int .i64 hd] 26 (0, 0)) ∧ W.heap[w12.heap.size]? = some (.cells #[.int .i64 wx, .int .i64 wy, .int .i64 we] 45 (0, 0)) ∧ W.heap[w14.heap.size]? = some (.cells #[.int .i64 m1, .int .i64 m2] 26 (0, 0)) ∧ Below w2.heap.size w2 W) (by refine ⟨?_, ?_, ?_, ?_, ?_⟩ <;> (exact ck)) ?_
                        clear bd bf Yo zv
                        clear bg bh Yp zw
                        clear bi bj Yq zx
                        clear bk bm Yr zy
                        clear bn bp br Ys zz
                        clear bs bt bu Yt jc
                        clear hB14
                        rintro w20 ⟨hB20, jd, je, jf, HQ⟩
                        obtain ⟨bx, bz, Yu, Hx⟩ := bk2 jd
                        replace jd := Lib.hid jd
                        obtain ⟨cd, ce, cf, Yv, Hy⟩ := bk3 je
                        replace je := Lib.hid je
                        obtain ⟨cg, ch, Yw, Hz⟩ := bk2 jf
                        replace jf := Lib.hid jf
                        have sz20 := hB20.size
                        go_upto_region 43 with (first | (have _t := tok15; go_at_call 19; (with_reducible refine ((T15 _).out).mono ?_); rintro e w15 ⟨rfl, hb15⟩; clear tok15 _t; have hz15 := hb15.size; (try simp only [sA, sB, sC, sD] at hz15)))
                        have jg := (hb15.block (gN) (blk_lt' jd.out)).trans jd.out
                        clear bx bz Yu jd
                        obtain ⟨ci, cj, Yx, Ka⟩ := bk2 jg
                        replace jg := Lib.hid jg
                        have jh := (hb15.block (w12.heap.size) (blk_lt' je.out)).trans je.out
                        clear cd ce cf Yv je
                        obtain ⟨cl, cn, co, Yy, Kb⟩ := bk3 jh
                        replace jh := Lib.hid jh
                        have ji := (hb15.block (w14.heap.size) (blk_lt' jf.out)).trans jf.out
                        clear cg ch Yw jf
                        obtain ⟨cp, cq, Yz, Kc⟩ := bk2 ji
                        replace ji := Lib.hid ji
                        have hB15 : Below w.heap.size w w15 := below_via hb15 (by assumption) (by first | exact hB20.size | go_size)
                        replace HQ := HQ.trans (hb15.mono HQ.size)
                        have sQ := HQ.size
                        clear hb15 T15
                        replace jg := jg.out
                        replace jh := jh.out
                        replace ji := ji.out
                        refine chk (fun W => Below w.heap.size w W ∧ W.heap[gN]? = some (.cells #[.int .i64 hn, .int .i64 hd] 26 (0, 0)) ∧ W.heap[w12.heap.size]? = some (.cells #[.int .i64 wx, .int .i64 wy, .int .i64 we] 45 (0, 0)) ∧ W.heap[w14.heap.size]? = some (.cells #[.int .i64 m1, .int .i64 m2] 26 (0, 0)) ∧ W.heap[w15.heap.size]? = some (.cells #[.int .i64 x1, .int .i64 x2] 26 (0, 0)) ∧ Below w2.heap.size w2 W) (by refine ⟨?_, ?_, ?_, ?_, ?_, ?_⟩ <;> (exact ck)) ?_
                        clear ci cj Yx jg
                        clear cl cn co Yy jh
                        clear cp cq Yz ji
                        clear hB15
                        rintro w21 ⟨hB21, qa, jj, jk, jl, HQ⟩
                        obtain ⟨vp, vq, vw, Zz⟩ := bk2 qa
                        replace qa := Lib.hid qa
                        obtain ⟨cr, ct, cu, Va, Kd⟩ := bk3 jj
                        replace jj := Lib.hid jj
                        obtain ⟨cw, cy, Vb, Ke⟩ := bk2 jk
                        replace jk := Lib.hid jk
                        obtain ⟨cz, na, Vc, Kf⟩ := bk2 jl
                        replace jl := Lib.hid jl
                        clear sz20
                        have sz21 := hB21.size
                        go_upto_region 44 with (first | (have _t := tok16; go_at_call 19; (with_reducible refine ((T16 _).out).mono ?_); rintro e w16 ⟨rfl, hb16⟩; clear tok16 _t; have hz16 := hb16.size; (try simp only [sA, sB, sC, sD] at hz16)))
                        have jm := (hb16.block (gN) (blk_lt' qa.out)).trans qa.out
                        clear vp vq vw qa
                        obtain ⟨nc, nd, Ve, Kg⟩ := bk2 jm
                        replace jm := Lib.hid jm
                        have jn := (hb16.block (w12.heap.size) (blk_lt' jj.out)).trans jj.out
                        clear cr ct cu Va jj
                        obtain ⟨nf, ng, nh, Vf, Kh⟩ := bk3 jn
                        replace jn := Lib.hid jn
                        have jo := (hb16.block (w14.heap.size) (blk_lt' jk.out)).trans jk.out
                        clear cw cy Vb jk
                        obtain ⟨ni, nj, Vg, Ki⟩ := bk2 jo
                        replace jo := Lib.hid jo
                        have jp := (hb16.block (w15.heap.size) (blk_lt' jl.out)).trans jl.out
                        clear cz na Vc jl
                        obtain ⟨nk, nl, Vh, Kj⟩ := bk2 jp
                        replace jp := Lib.hid jp
                        have hB16 : Below w.heap.size w w16 := below_via hb16 (by assumption) (by first | exact hB21.size | go_size)
                        replace HQ := HQ.trans (hb16.mono HQ.size)
                        have sQ := HQ.size
                        clear hb16 T16
                        replace jm := jm.out
                        replace jn := jn.out
                        replace jo := jo.out
                        replace jp := jp.out
                        refine chk (fun W => Below w.heap.size w W ∧ W.heap[gN]? = some (.cells #[.int .i64 hn, .int .i64 hd] 26 (0, 0)) ∧ W.heap[w14.heap.size]? = some (.cells #[.int .i64 m1, .int .i64 m2] 26 (0, 0)) ∧ W.heap[w15.heap.size]? = some (.cells #[.int .i64 x1, .int .i64 x2] 26 (0, 0)) ∧ W.heap[w16.heap.size]? = some (.cells #[.int .i64 y1, .int .i64 y2] 26 (0, 0)) ∧ Below w2.heap.size w2 W) (by refine ⟨?_, ?_, ?_, ?_, ?_, ?_⟩ <;> (exact ck)) ?_
                        clear nc nd Ve jm
                        clear nf ng nh Vf jn
                        clear ni nj Vg jo
                        clear nk nl Vh jp
                        clear hB16
                        rintro w22 ⟨hB22, qf, vz, wd, wg, HQ⟩
                        obtain ⟨vx, vy, wk, Jd⟩ := bk2 qf
                        replace qf := Lib.hid qf
                        obtain ⟨Ug, Uh, Kk, Kl⟩ := bk2 vz
                        replace vz := Lib.hid vz
                        obtain ⟨Ui, Uj, Km, Kn⟩ := bk2 wd
                        replace wd := Lib.hid wd
                        obtain ⟨Uk, Ul, Ko, Kp⟩ := bk2 wg
                        replace wg := Lib.hid wg
                        clear sz21
                        have sz22 := hB22.size
                        go_cut [434] (fun sq wx => sq = .bool false ∧ w22 = wx)
                        case first =>
                            cases all
                            · as_aux_lemma =>
                                go_wp2_with fail
                                go_meet
                                exact ⟨by first | rfl | simp, rfl⟩
                            cases one
                            · as_aux_lemma =>
                                go_wp2_with fail
                                go_meet
                                exact ⟨by first | rfl | simp, rfl⟩
                            cases two
                            · as_aux_lemma =>
                                go_wp2_with fail
                                go_meet
                                exact ⟨by first | rfl | simp, rfl⟩
                            · obtain ⟨rfl, rfl, rfl, rfl⟩ := hall.out (by first | rfl | trivial) (by first | rfl | trivial) (by first | rfl | trivial) hfn.out hfd.out (by first | rfl | trivial) (by first | rfl | trivial) h0 (by first | rfl | trivial) (by first | rfl | trivial) (by first | rfl | trivial)
                              have E1 := fun W => neqFr_same m1 m2 W
                              have E2 := fun W => neqFr_same hn hd W
                              as_aux_lemma =>
                                go_wp2_with fail
                                go_meet
                                exact ⟨by first | rfl | simp, rfl⟩
                        case rest =>
                          obtain ⟨rfl, hcw⟩ := hcut
                          subst hcw
                          clear hall
                          go_wp2_with fail
                          go_roundw
                          case rel => first | exact ⟨k + 1, by omega, by first | rfl | go_num, by exact bel⟩ | ((repeat (with_reducible apply Exists.intro)); exact ⟨⟨k + 1, by omega, by first | rfl | go_num, by exact bel⟩, rfl⟩)
                          case measure => simp [intOf]; omega
                    · have h0c : decide (0 < we) = false := decide_eq_false h0
                      as_aux_lemma =>
                        go_wp2_with fail
                        go_roundw
                        case rel => first | exact ⟨k + 1, by omega, by first | rfl | go_num, by exact bel⟩ | ((repeat (with_reducible apply Exists.intro)); exact ⟨⟨k + 1, by omega, by first | rfl | go_num, by exact bel⟩, rfl⟩)
                        case measure => simp [intOf]; omega
            · as_aux_lemma =>
                go_wp2_with fail
                go_roundw
                case rel => first | exact ⟨k + 1, by omega, by first | rfl | go_num, by exact bel⟩ | ((repeat (with_reducible apply Exists.intro)); exact ⟨⟨k + 1, by omega, by first | rfl | go_num, by exact bel⟩, rfl⟩)
                case measure => simp [intOf]; omega
        · obtain rfl : k = n49 := by omega
          as_aux_lemma =>
            go_wp2_with fail
            go_ret
            refine ⟨rfl, ?_⟩
            exact bel
end Go.Proofs.YtnemnkbcbokafaaGreat
