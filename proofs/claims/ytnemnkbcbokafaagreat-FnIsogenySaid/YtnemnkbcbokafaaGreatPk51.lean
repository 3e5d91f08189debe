/- Lemmas and contracts of functions. No condition. -/
import Derived.Test.YtnemnkbcbokafaaGreatPk50
namespace Go.Proofs.YtnemnkbcbokafaaGreat
open Go.RowKit
set_option linter.unusedVariables false
set_option maxHeartbeats 0
set_option maxRecDepth 20000
set_option linter.unusedSimpArgs false

theorem FnIs_21 {ta tb nx dx ny dy p1 p2 z1 z2 ra rb mv m n : Int} {ok seven five : Bool} {w W : World} {gT gX gY gP gZ gR : Nat} {u0 u1 u2 u3 u4 u8 u9 u13 u14 u15 u16 u17 u18 u19 u20 u21 u22 u23 u24 u25 u26 u27 u28 u32 u33 u34 u38 u39 u40 u41 u42 u43 u44 u45 u46 u47 u48 u49 u50 u51 u52 u53 u54 u55 u56 u57 u58 u59 u60 u61 u62 u63 u64 u65 u66 u67 u68 u69 u70 u71 u72 u73 u74 u75 u76 u77 u78 u79 u80 u81 u82 u83 u84 u85 u86 u87 u88 u89 u90 u91 u92 u93 u94 u95 u96 u97 u98 u99 u100 u101 u102 u103 u104 u105 u106 u107 u108 u109 u110 u111 u112 u113 u114 u115 u116 u117 u118 u119 u120 u121 u122 u123 u124 u125 u126 u127 u128 u129 u130 u131 u132 u133 u134 u135 u136 u137 u138 u139 u140 u141 u142 u143 u144 u145 u146 u147 u148 u149 u150 u151 u152 u153 u154 u155 u156 u157 u158 u159 u160 u161 u162 u163 u164 u165 u166 u167 u168 u169 u170 u171 u172 u173 u174 u175 u176 u177 u178 u179 u180 u181 u182 u183 u184 u185 u186 u187 u188 u189 u190 u191 u192 u193 u194 u195 u196 u197 u198 u199 u200 u201 u202 u203 u204 u205 u206 u207 u208 u209 u210 u211 u212 u213 u214 u215 u216 u217 u218 u219 u220 u221 u222 u223 u224 u225 u226 u227 u228 u229 u230 u231 u232 u233 u234 u235 u236 u237 u238 u239 u240 u241 u242 u243 u244 u245 u246 u247 u248 u249 u250 u251 u252 u253 u254 u255 u256 u257 u258 u259 u260 u261 u262 u263 u264 u265 u266 u267 u268 u269 u270 u271 u272 u273 u274 u275 u276 u277 u278 u279 u280 u281 u282 u283 u284 u285 u286 u287 u288 u289 u290 u291 u292 u293 u294 u295 u296 u297 u298 u299 u300 u301 u302 u303 u304 u305 u306 u307 u308 u309 u310 u311 u312 u313 u314 u315 u316 u317 u318 u319 u320 u321 u322 u323 u324 u325 u326 u327 u328 u329 u330 u331 u332 u333 u334 u335 u336 u337 u338 u339 u340 u341 u342 u343 u344 u345 u346 u347 u348 u349 u350 u351 u352 u353 u354 u355 u356 u357 u358 u359 u360 u361 u362 u363 u364 u365 u366 u367 u368 u369 u370 u371 u372 u373 u374 u375 u376 u377 u378 u379 u380 u381 u382 u383 u384 u385 u386 u387 u388 u389 u390 u391 u392 u393 u394 u395 u396 u397 u398 u399 u400 u401 u402 u403 u404 u405 u406 u407 u408 u409 u410 u411 u412 u413 u414 u415 u416 u417 u418 u419 u420 u421 u422 u423 u424 u425 u426 u427 u428 u429 u430 u431 u432 u433 u434 u435 : Value}
    (hB : Below w.heap.size w W) (HT : W.heap[gT]? = some (.cells #[.int .i64 ta, .int .i64 tb] 24 (0, 0))) (HX : W.heap[gX]? = some (.cells #[.int .i64 nx, .int .i64 dx] 26 (0, 0))) (HY : W.heap[gY]? = some (.cells #[.int .i64 ny, .int .i64 dy] 26 (0, 0))) (HP : W.heap[gP]? = some (.cells #[.int .i64 p1, .int .i64 p2] 26 (0, 0))) (HZ : W.heap[gZ]? = some (.cells #[.int .i64 z1, .int .i64 z2] 26 (0, 0))) (HR : W.heap[gR]? = some (.cells #[.int .i64 ra, .int .i64 rb] 35 (0, 0)))
    (F2 : (five = true → (-300 ≤ ta ∧ ta ≤ 300) ∧ (-300 ≤ tb ∧ tb ≤ 300) ∧ (-600 ≤ m ∧ m ≤ 600) ∧ (-100000 ≤ n ∧ n ≤ 100000) ∧ -2 * m = 4 * ta ∧ m * m - 4 * n = 16 * tb))
    (F3 : (ok = true → seven = true → ta.tmod 3 = 0 → ∃ (kn kd hn hd : Int) (done : Bool) (sn sd : Int) (right : Bool) (L : List P3) (there : Bool), RetC 8 #[.agg #[.int .i64 ta, .int .i64 tb], .agg #[.int .i64 p1, .int .i64 p2], .agg #[.int .i64 z1, .int .i64 z2]] (.tuple #[.agg #[.int .i64 kn, .int .i64 kd], .agg #[.int .i64 hn, .int .i64 hd], .bool done]) ∧ RetC 9 #[.agg #[.int .i64 ta, .int .i64 tb], .agg #[.int .i64 p1, .int .i64 p2], .agg #[.int .i64 z1, .int .i64 z2]] (.tuple #[.agg #[.int .i64 kn, .int .i64 kd], .agg #[.int .i64 hn, .int .i64 hd], .bool done]) ∧ RetC 17 #[.agg #[.int .i64 nx, .int .i64 dx], .agg #[.int .i64 mv, .int .i64 1]] (.tuple #[.agg #[.int .i64 sn, .int .i64 sd], .bool right]) ∧ (∀ W, Calls Tryz.prog 18 #[.agg #[.int .i64 ra, .int .i64 rb], .agg #[.int .i64 sn, .int .i64 sd]] W (NewX W 3 L.length (flat3 L) there)) ∧ L.length ≤ 2 ∧ ∀ i, i < L.length → ∀ X Y E : Int, L[i]?.getD (0, 0, 0) = (X, Y, E) → (1 ≤ E ∧ E ≤ 20) ∧ ∃ (fn fd : Int) (sure : Bool) (wx wy we : Int) (had : Bool) (m1 m2 : Int) (all : Bool) (x1 x2 : Int) (one : Bool) (y1 y2 : Int) (two : Bool), RetC 19 #[.int .i64 Y, .int .i64 (E * E * E)] (.tuple #[.agg #[.int .i64 fn, .int .i64 fd], .bool sure]) ∧ RetC 20 #[.agg #[.int .i64 ra, .int .i64 rb], .agg #[.int .i64 X, .int .i64 Y, .int .i64 E]] (.tuple #[.agg #[.int .i64 wx, .int .i64 wy, .int .i64 we], .bool had]) ∧ RetC 21 #[.agg #[.int .i64 ra, .int .i64 rb], .agg #[.int .i64 X, .int .i64 Y, .int .i64 E]] (.tuple #[.agg #[.int .i64 wx, .int .i64 wy, .int .i64 we], .bool had]) ∧ (had = true → 0 ≤ we ∧ we ≤ 20) ∧ RetC 17 #[.agg #[.int .i64 kn, .int .i64 kd], .agg #[.int .i64 mv, .int .i64 1]] (.tuple #[.agg #[.int .i64 m1, .int .i64 m2], .bool all]) ∧ RetC 19 #[.int .i64 wx, .int .i64 (we * we)] (.tuple #[.agg #[.int .i64 x1, .int .i64 x2], .bool one]) ∧ RetC 19 #[.int .i64 wy, .int .i64 (we * we * we)] (.tuple #[.agg #[.int .i64 y1, .int .i64 y2], .bool two]) ∧ (right = true → there = true → sure = true → fn = ny → fd = dy → done = true → had = true → 0 < we → all = true → one = true → two = true → m1 = x1 ∧ m2 = x2 ∧ hn = y1 ∧ hd = y2)))
    : Code.wp Tryz.prog (dropTo 21 (bodyOf Tryz.f3)) (bodyPost Tryz.prog Tryz.f3 fun e w' => e = .returned (.bool true) ∧ Below w.heap.size w w') { tmps := #[u0, u1, u2, u3, u4, .pointer (some ⟨gT, 0, none⟩), .pointer (some ⟨gX, 0, none⟩), .pointer (some ⟨gY, 0, none⟩), u8, u9, .bool ok, .pointer (some ⟨gP, 0, none⟩), .pointer (some ⟨gZ, 0, none⟩), u13, u14, u15, u16, u17, u18, u19, u20, u21, u22, u23, u24, u25, u26, u27, u28, .bool five, .int .i64 m, .int .i64 n, u32, u33, u34, .bool seven, .pointer (some ⟨gR, 0, none⟩), .int .i64 mv, u38, u39, u40, u41, u42, u43, u44, u45, u46, u47, u48, u49, u50, u51, u52, u53, u54, u55, u56, u57, u58, u59, u60, u61, u62, u63, u64, u65, u66, u67, u68, u69, u70, u71, u72, u73, u74, u75, u76, u77, u78, u79, u80, u81, u82, u83, u84, u85, u86, u87, u88, u89, u90, u91, u92, u93, u94, u95, u96, u97, u98, u99, u100, u101, u102, u103, u104, u105, u106, u107, u108, u109, u110, u111, u112, u113, u114, u115, u116, u117, u118, u119, u120, u121, u122, u123, u124, u125, u126, u127, u128, u129, u130, u131, u132, u133, u134, u135, u136, u137, u138, u139, u140, u141, u142, u143, u144, u145, u146, u147, u148, u149, u150, u151, u152, u153, u154, u155, u156, u157, u158, u159, u160, u161, u162, u163, u164, u165, u166, u167, u168, u169, u170, u171, u172, u173, u174, u175, u176, u177, u178, u179, u180, u181, u182, u183, u184, u185, u186, u187, u188, u189, u190, u191, u192, u193, u194, u195, u196, u197, u198, u199, u200, u201, u202, u203, u204, u205, u206, u207, u208, u209, u210, u211, u212, u213, u214, u215, u216, u217, u218, u219, u220, u221, u222, u223, u224, u225, u226, u227, u228, u229, u230, u231, u232, u233, u234, u235, u236, u237, u238, u239, u240, u241, u242, u243, u244, u245, u246, u247, u248, u249, u250, u251, u252, u253, u254, u255, u256, u257, u258, u259, u260, u261, u262, u263, u264, u265, u266, u267, u268, u269, u270, u271, u272, u273, u274, u275, u276, u277, u278, u279, u280, u281, u282, u283, u284, u285, u286, u287, u288, u289, u290, u291, u292, u293, u294, u295, u296, u297, u298, u299, u300, u301, u302, u303, u304, u305, u306, u307, u308, u309, u310, u311, u312, u313, u314, u315, u316, u317, u318, u319, u320, u321, u322, u323, u324, u325, u326, u327, u328, u329, u330, u331, u332, u333, u334, u335, u336, u337, u338, u339, u340, u341, u342, u343, u344, u345, u346, u347, u348, u349, u350, u351, u352, u353, u354, u355, u356, u357, u358, u359, u360, u361, u362, u363, u364, u365, u366, u367, u368, u369, u370, u371, u372, u373, u374, u375, u376, u377, u378, u379, u380, u381, u382, u383, u384, u385, u386, u387, u388, u389, u390, u391, u392, u393, u394, u395, u396, u397, u398, u399, u400, u401, u402, u403, u404, u405, u406, u407, u408, u409, u410, u411, u412, u413, u414, u415, u416, u417, u418, u419, u420, u421, u422, u423, u424, u425, u426, u427, u428, u429, u430, u431, u432, u433, u434, u435], defers := [] } W := by
  replace F2 := Lib.hid F2
  replace F3 := Lib.hid F3
  have tok1 := trivial
  conv in dropTo _ _ => whnf
  dsimp only
  refine chk (fun W => Below w.heap.size w W ∧ W.heap[gT]? = some (.cells #[.int .i64 ta, .int .i64 tb] 24 (0, 0)) ∧ W.heap[gX]? = some (.cells #[.int .i64 nx, .int .i64 dx] 26 (0, 0)) ∧ W.heap[gY]? = some (.cells #[.int .i64 ny, .int .i64 dy] 26 (0, 0)) ∧ W.heap[gP]? = some (.cells #[.int .i64 p1, .int .i64 p2] 26 (0, 0)) ∧ W.heap[gZ]? = some (.cells #[.int .i64 z1, .int .i64 z2] 26 (0, 0)) ∧ W.heap[gR]? = some (.cells #[.int .i64 ra, .int .i64 rb] 35 (0, 0))) (by refine ⟨?_, ?_, ?_, ?_, ?_, ?_, ?_⟩ <;> (exact ck)) ?_
  rintro w2 ⟨hB2, qa, qb, qc, qf, qg, qh⟩
  obtain ⟨qi, qj, xa, xb⟩ := bk2 qa
  replace qa := Lib.hid qa
  obtain ⟨qk, ql, xc, xe⟩ := bk2 qb
  replace qb := Lib.hid qb
  obtain ⟨qm, qp, xf, xg⟩ := bk2 qc
  replace qc := Lib.hid qc
  obtain ⟨qq, qr, xh, xi⟩ := bk2 qf
  replace qf := Lib.hid qf
  obtain ⟨qt, qu, xj, xk⟩ := bk2 qg
  replace qg := Lib.hid qg
  obtain ⟨qw, qz, xl, xm⟩ := bk2 qh
  replace qh := Lib.hid qh
  clear hB HT HX HY HP HZ HR
  have sz2 := hB2.size
  cases five
  · have _t := trivial
    iterate 90 (first | ((with_reducible show Code.wp _ (.seq (.seq (.region 24 _ _) _) _) _ _ _); exact FnIs_24 hB2 qa.out qb.out qc.out qf.out qg.out qh.out F3.out) | go_values | go_skip | go_guarded | go_step | go_upon | go_back | skip)
  · obtain ⟨b1, b2, b3, b4, e1, e2⟩ := F2.out rfl
    have g1 : (-2 * m != 4 * ta) = false := by simp [e1]
    have g2 : (m * m - 4 * n != 16 * tb) = false := by simp [e2]
    have m1 := mul_bd (a := m) (b := m) (A := 600) (B := 600) (by omega) (by omega)
    clear F2 e1 e2
    go_upto_region 22 with fail
    go_cut [268] (fun sq wx => sq = .bool false ∧ w2 = wx)
    case first =>
      as_aux_lemma =>
        clear F3
        go_wp2_with fail
        go_meet
        exact ⟨by first | rfl | simp, rfl⟩
    case rest =>
      obtain ⟨rfl, hcw⟩ := hcut
      subst hcw
      clear g1 g2 m1 b1 b2 b3 b4
      iterate 90 (first | ((with_reducible show Code.wp _ (.seq (.seq (.region 24 _ _) _) _) _ _ _); exact FnIs_24 hB2 qa.out qb.out qc.out qf.out qg.out qh.out F3.out) | go_values | go_skip | go_guarded | go_step | go_upon | go_back | skip)
end Go.Proofs.YtnemnkbcbokafaaGreat
