/- FnClasses: squarefree parts and divisors. -/
import Derived.Test.YtnemnkbcbokafaaClc
namespace Go.Proofs.Ytnemnkbcbokafaa
open Go.RowKit
set_option linter.unusedVariables false
set_option maxHeartbeats 0
set_option maxRecDepth 20000
set_option linter.unusedSimpArgs false

theorem FnCl_22 {ua ub x1 x2 y1 y2 wa wb qd qa qc fa fb v d n s : Int} {ok o5 o7 o9 : Bool} {w W : World} {gU gX gY gW gQ gR gF n12 c12 : Nat} {a12 : Option Addr} {L : List Int} {u0 u1 u2 u3 u4 u6 u9 u10 u11 u13 u14 u15 u16 u17 u18 u19 u22 u23 u24 u25 u26 u30 u32 u36 u38 u41 u42 u43 u44 u45 u46 u47 u48 u49 u50 u51 u52 u53 u54 u55 u56 u57 u58 u59 u60 u61 u62 u63 u64 u65 u66 u67 u68 u69 u70 u71 u72 u73 u74 u75 u76 u77 u78 u79 u80 u81 u82 u83 u84 u85 u86 u87 u88 u89 u90 u91 u92 u93 u94 u95 u96 u97 u98 u99 u100 u101 u102 u103 u104 u105 u106 u107 u108 u109 u110 u111 u112 u113 u114 u115 u116 u117 u118 u119 u120 u121 u122 u123 u124 u125 u126 u127 u128 u129 u130 u131 u132 u133 u134 u135 u136 u137 u138 u139 u140 u141 u142 u143 u144 u145 u146 u147 u148 u149 u150 u151 u152 u153 u154 u155 u156 u157 u158 u159 u160 u161 u162 u163 u164 u165 u166 u167 u168 u169 u170 u171 u172 u173 u174 u175 u176 u177 u178 u179 u180 u181 u182 u183 u184 u185 u186 u187 u188 u189 u190 u191 u192 u193 u194 u195 u196 u197 u198 u199 u200 u201 u202 u203 u204 u205 u206 u207 u208 u209 u210 u211 u212 u213 u214 u215 u216 u217 u218 u219 u220 u221 u222 u223 u224 u225 u226 u227 u228 u229 u230 u231 u232 u233 u234 u235 u236 u237 u238 u239 u240 u241 u242 u243 u244 u245 u246 u247 u248 u249 u250 u251 u252 u253 u254 u255 u256 u257 u258 u259 u260 u261 u262 u263 u264 u265 u266 u267 u268 u269 u270 u271 u272 u273 u274 u275 u276 u277 u278 u279 u280 u281 u282 u283 u284 u285 u286 u287 u288 u289 u290 u291 u292 u293 u294 u295 u296 u297 u298 u299 u300 u301 u302 u303 u304 u305 u306 u307 u308 u309 u310 u311 u312 u313 u314 u315 u316 u317 u318 u319 u320 u321 u322 u323 u324 u325 u326 u327 u328 u329 u330 u331 u332 u333 u334 u335 u336 u337 u338 u339 u340 u341 u342 u343 u344 u345 u346 u347 u348 u349 u350 u351 u352 u353 u354 u355 u356 u357 u358 u359 u360 u361 u362 u363 u364 u365 u366 u367 u368 u369 u370 u371 u372 u373 u374 u375 u376 u377 u378 u379 u380 u381 u382 u383 u384 u385 u386 u387 u388 u389 u390 u391 u392 : Value}
    (hB : Below w.heap.size w W) (HU : W.heap[gU]? = some (.cells #[.int .i64 ua, .int .i64 ub] 30 (0, 0))) (HX : W.heap[gX]? = some (.cells #[.int .i64 x1, .int .i64 x2] 32 (0, 0))) (HY : W.heap[gY]? = some (.cells #[.int .i64 y1, .int .i64 y2] 32 (0, 0))) (HW : W.heap[gW]? = some (.cells #[.int .i64 wa, .int .i64 wb] 30 (0, 0))) (HQ : W.heap[gQ]? = some (.cells #[.int .i64 qd, .int .i64 qa, .int .i64 qc] 43 (0, 0))) (HR : W.heap[gR]? = some (.cells #[.int .i64 qd, .int .i64 qa, .int .i64 qc] 43 (0, 0))) (HF : W.heap[gF]? = some (.cells #[.int .i64 fa, .int .i64 fb] 30 (0, 0))) (hx12 : Sx W a12 n12 c12 L) (hL : L.length ≤ 2000000000)
    (F1 : (ok = true → s ≠ 0 ∧ n.tmod s = 0 ∧ (-1000000000 ≤ n ∧ n ≤ 1000000000) ∧ (-1000000000 ≤ s ∧ s ≤ 1000000000) ∧ (∃ r : Int, (0 ≤ r ∧ r ≤ 31623) ∧ r * r = n.tdiv s ∧ RetC 23 #[.agg #[.int .i64 (n.tdiv s), .int .i64 1]] (.tuple #[.agg #[.int .i64 r, .int .i64 1], .bool true])) ∧ s ∈ L ∧ -s ∈ L ∧ ∀ i, i < L.length → L[i]?.getD 0 ≠ 0 ∧ (-1000000000 ≤ L[i]?.getD 0 ∧ L[i]?.getD 0 ≤ 1000000000) ∧ n.tmod (L[i]?.getD 0) = 0 ∧ (0 < i → L[i - 1]?.getD 0 < L[i]?.getD 0) ∧ L[L.length - 1 - i]?.getD 0 = -(L[i]?.getD 0)))
    (F3 : (o5 = true → (∃ is told : Bool, RetC 25 #[.agg #[.int .i64 ua, .int .i64 ub], .agg #[.int .i64 x1, .int .i64 x2], .agg #[.int .i64 y1, .int .i64 y2]] (.tuple #[.bool is, .bool told]) ∧ (told = true → is = true)) ∧ ∃ c : Int, RetC 10 #[.agg #[.int .i64 ua, .int .i64 ub], .agg #[.int .i64 x1, .int .i64 x2]] (.tuple #[.int .i64 c, .bool true]) ∧ RetC 5 #[.int .i64 d] (.tuple #[.int .i64 c, .bool true])))
    (F4 : (o7 = true → (qd * qc = wb ∧ qa = wa ∧ -300 ≤ wb ∧ wb ≤ 300) ∧ RetC 26 #[.agg #[.int .i64 qd, .int .i64 qa, .int .i64 qc]] (.bool true)))
    (F5 : (o9 = true → (-300 ≤ fa ∧ fa ≤ 300) ∧ (-300 ≤ fb ∧ fb ≤ 300) ∧ ∃ (r1 r2 : Int) (q : Bool), RetC 23 #[.agg #[.int .i64 (fa * fa - 4 * fb), .int .i64 1]] (.tuple #[.agg #[.int .i64 r1, .int .i64 r2], .bool q]) ∧ ((v = 4 ∧ q = true) ∨ (v = 2 ∧ q = false))))
    : Code.wp Try.prog (dropTo 22 (bodyOf Try.f3)) (bodyPost Try.prog Try.f3 fun e w' => e = .returned (.bool true) ∧ Below w.heap.size w w') { tmps := #[u0, u1, u2, u3, u4, .int .i64 n, u6, .bool ok, .int .i64 s, u9, u10, u11, .slice a12 n12 c12, u13, u14, u15, u16, u17, u18, u19, .pointer (some ⟨gU, 0, none⟩), .int .i64 d, u22, u23, u24, u25, u26, .bool o5, .pointer (some ⟨gX, 0, none⟩), .pointer (some ⟨gY, 0, none⟩), u30, .pointer (some ⟨gW, 0, none⟩), u32, .pointer (some ⟨gR, 0, none⟩), .bool o7, .pointer (some ⟨gQ, 0, none⟩), u36, .pointer (some ⟨gF, 0, none⟩), u38, .bool o9, .int .i64 v, u41, u42, u43, u44, u45, u46, u47, u48, u49, u50, u51, u52, u53, u54, u55, u56, u57, u58, u59, u60, u61, u62, u63, u64, u65, u66, u67, u68, u69, u70, u71, u72, u73, u74, u75, u76, u77, u78, u79, u80, u81, u82, u83, u84, u85, u86, u87, u88, u89, u90, u91, u92, u93, u94, u95, u96, u97, u98, u99, u100, u101, u102, u103, u104, u105, u106, u107, u108, u109, u110, u111, u112, u113, u114, u115, u116, u117, u118, u119, u120, u121, u122, u123, u124, u125, u126, u127, u128, u129, u130, u131, u132, u133, u134, u135, u136, u137, u138, u139, u140, u141, u142, u143, u144, u145, u146, u147, u148, u149, u150, u151, u152, u153, u154, u155, u156, u157, u158, u159, u160, u161, u162, u163, u164, u165, u166, u167, u168, u169, u170, u171, u172, u173, u174, u175, u176, u177, u178, u179, u180, u181, u182, u183, u184, u185, u186, u187, u188, u189, u190, u191, u192, u193, u194, u195, u196, u197, u198, u199, u200, u201, u202, u203, u204, u205, u206, u207, u208, u209, u210, u211, u212, u213, u214, u215, u216, u217, u218, u219, u220, u221, u222, u223, u224, u225, u226, u227, u228, u229, u230, u231, u232, u233, u234, u235, u236, u237, u238, u239, u240, u241, u242, u243, u244, u245, u246, u247, u248, u249, u250, u251, u252, u253, u254, u255, u256, u257, u258, u259, u260, u261, u262, u263, u264, u265, u266, u267, u268, u269, u270, u271, u272, u273, u274, u275, u276, u277, u278, u279, u280, u281, u282, u283, u284, u285, u286, u287, u288, u289, u290, u291, u292, u293, u294, u295, u296, u297, u298, u299, u300, u301, u302, u303, u304, u305, u306, u307, u308, u309, u310, u311, u312, u313, u314, u315, u316, u317, u318, u319, u320, u321, u322, u323, u324, u325, u326, u327, u328, u329, u330, u331, u332, u333, u334, u335, u336, u337, u338, u339, u340, u341, u342, u343, u344, u345, u346, u347, u348, u349, u350, u351, u352, u353, u354, u355, u356, u357, u358, u359, u360, u361, u362, u363, u364, u365, u366, u367, u368, u369, u370, u371, u372, u373, u374, u375, u376, u377, u378, u379, u380, u381, u382, u383, u384, u385, u386, u387, u388, u389, u390, u391, u392], defers := [] } W := by
  replace F1 := Lib.hid F1
  replace F3 := Lib.hid F3
  replace F4 := Lib.hid F4
  replace F5 := Lib.hid F5
  have tok4 : True := trivial
  have tok5 : True := trivial
  have tok6 : True := trivial
  conv in dropTo _ _ => whnf
  dsimp only
  refine chk (fun W => Below w.heap.size w W ∧ W.heap[gU]? = some (.cells #[.int .i64 ua, .int .i64 ub] 30 (0, 0)) ∧ W.heap[gX]? = some (.cells #[.int .i64 x1, .int .i64 x2] 32 (0, 0)) ∧ W.heap[gY]? = some (.cells #[.int .i64 y1, .int .i64 y2] 32 (0, 0)) ∧ W.heap[gW]? = some (.cells #[.int .i64 wa, .int .i64 wb] 30 (0, 0)) ∧ W.heap[gQ]? = some (.cells #[.int .i64 qd, .int .i64 qa, .int .i64 qc] 43 (0, 0)) ∧ W.heap[gR]? = some (.cells #[.int .i64 qd, .int .i64 qa, .int .i64 qc] 43 (0, 0)) ∧ W.heap[gF]? = some (.cells #[.int .i64 fa, .int .i64 fb] 30 (0, 0)) ∧ Sx W a12 n12 c12 L) (by refine ⟨?_, ?_, ?_, ?_, ?_, ?_, ?_, ?_, ?_⟩ <;> (repeat' first | (with_reducible first | assumption | (apply Ne.symm; assumption) | apply Nat.le_refl | apply Nat.le_add_right | apply zL | apply zRf | apply Wx.box | apply Wx.box4 | apply zWa | apply Wx.drew | apply zWn | apply bx_drew | apply bx_drewN | apply bx_set3 | apply bx_set2 | apply bx_set4 | apply bx_set1) | ((with_reducible apply bx_new); (focus (go_size; done))) | (with_reducible first | apply zOl | apply zFa | apply zDn | apply zDr | apply zAl | apply zSt | refine zVi (by assumption) ?_ ?_) | go_size | omega)) ?_
  rintro w2 ⟨hB2, H_U_2, H_X_2, H_Y_2, H_W_2, H_Q_2, H_R_2, H_F_2, hS12⟩
  obtain ⟨k_U_2_0, k_U_2_1, f_U_2, l_U_2⟩ := bk2 H_U_2
  replace H_U_2 := Lib.hid H_U_2
  obtain ⟨k_X_2_0, k_X_2_1, f_X_2, l_X_2⟩ := bk2 H_X_2
  replace H_X_2 := Lib.hid H_X_2
  obtain ⟨k_Y_2_0, k_Y_2_1, f_Y_2, l_Y_2⟩ := bk2 H_Y_2
  replace H_Y_2 := Lib.hid H_Y_2
  obtain ⟨k_W_2_0, k_W_2_1, f_W_2, l_W_2⟩ := bk2 H_W_2
  replace H_W_2 := Lib.hid H_W_2
  obtain ⟨k_Q_2_0, k_Q_2_1, k_Q_2_2, f_Q_2, l_Q_2⟩ := bk3 H_Q_2
  replace H_Q_2 := Lib.hid H_Q_2
  obtain ⟨k_R_2_0, k_R_2_1, k_R_2_2, f_R_2, l_R_2⟩ := bk3 H_R_2
  replace H_R_2 := Lib.hid H_R_2
  obtain ⟨k_F_2_0, k_F_2_1, f_F_2, l_F_2⟩ := bk2 H_F_2
  replace H_F_2 := Lib.hid H_F_2
  clear hB HU HX HY HW HQ HR HF hx12
  have sz2 := hB2.size
  cases ok
  · have _t := trivial
    iterate 90 (first | ((with_reducible show Code.wp _ (.seq (.seq (.region 34 _ _) _) _) _ _ _); exact FnCl_34 hB2 H_U_2.out H_X_2.out H_Y_2.out H_W_2.out H_Q_2.out H_R_2.out H_F_2.out F3.out F4.out F5.out) | go_values | go_skip | go_guarded | go_step | go_upon | go_back | skip)
  · obtain ⟨hs0, hm, bn, bs, ⟨r, br, hr, R4⟩, i1, i2, hall⟩ := F1.out rfl
    have T4 := fun W : World => Lib.hid (R4 W)
    have q1 : (s == 0) = false := by simpa using hs0
    have q2 : (n.tmod s != 0) = false := by simp [hm]
    have q3 := tdiv_bd n s
    have q4 : -1000000000 ≤ n.tdiv s ∧ n.tdiv s ≤ 1000000000 := by omega
    have q5 : (r * r != n.tdiv s) = false := by simp [hr]
    replace hall := Lib.hid hall
    clear F1 R4 hm q3
    go_upto_region 26 with (first | (have _t := tok4; go_at_call 23; (with_reducible refine ((T4 _).out).mono ?_); rintro e w4 ⟨rfl, hb4⟩; clear tok4 _t; have hz4 := hb4.size; (try simp only [World.size_alloc, World.size_setCell, World.size_drew, World.size_drewN'] at hz4)))
    have H_U_4 := (hb4.block (gU) (blk_lt' H_U_2.out)).trans H_U_2.out
    clear k_U_2_0 k_U_2_1 f_U_2 H_U_2
    obtain ⟨k_U_4_0, k_U_4_1, f_U_4, l_U_4⟩ := bk2 H_U_4
    replace H_U_4 := Lib.hid H_U_4
    have H_X_4 := (hb4.block (gX) (blk_lt' H_X_2.out)).trans H_X_2.out
    clear k_X_2_0 k_X_2_1 f_X_2 H_X_2
    obtain ⟨k_X_4_0, k_X_4_1, f_X_4, l_X_4⟩ := bk2 H_X_4
    replace H_X_4 := Lib.hid H_X_4
    have H_Y_4 := (hb4.block (gY) (blk_lt' H_Y_2.out)).trans H_Y_2.out
    clear k_Y_2_0 k_Y_2_1 f_Y_2 H_Y_2
    obtain ⟨k_Y_4_0, k_Y_4_1, f_Y_4, l_Y_4⟩ := bk2 H_Y_4
    replace H_Y_4 := Lib.hid H_Y_4
    have H_W_4 := (hb4.block (gW) (blk_lt' H_W_2.out)).trans H_W_2.out
    clear k_W_2_0 k_W_2_1 f_W_2 H_W_2
    obtain ⟨k_W_4_0, k_W_4_1, f_W_4, l_W_4⟩ := bk2 H_W_4
    replace H_W_4 := Lib.hid H_W_4
    have H_Q_4 := (hb4.block (gQ) (blk_lt' H_Q_2.out)).trans H_Q_2.out
    clear k_Q_2_0 k_Q_2_1 k_Q_2_2 f_Q_2 H_Q_2
    obtain ⟨k_Q_4_0, k_Q_4_1, k_Q_4_2, f_Q_4, l_Q_4⟩ := bk3 H_Q_4
    replace H_Q_4 := Lib.hid H_Q_4
    have H_R_4 := (hb4.block (gR) (blk_lt' H_R_2.out)).trans H_R_2.out
    clear k_R_2_0 k_R_2_1 k_R_2_2 f_R_2 H_R_2
    obtain ⟨k_R_4_0, k_R_4_1, k_R_4_2, f_R_4, l_R_4⟩ := bk3 H_R_4
    replace H_R_4 := Lib.hid H_R_4
    have H_F_4 := (hb4.block (gF) (blk_lt' H_F_2.out)).trans H_F_2.out
    clear k_F_2_0 k_F_2_1 f_F_2 H_F_2
    obtain ⟨k_F_4_0, k_F_4_1, f_F_4, l_F_4⟩ := bk2 H_F_4
    replace H_F_4 := Lib.hid H_F_4
    have hB4 : Below w.heap.size w w4 := below_via hb4 (by assumption) (by first | exact hB2.size | go_size)
    have sz4 := hB4.size
    have hx4 := hS12.below hb4
    clear hb4 T4
    replace H_U_4 := H_U_4.out
    replace H_X_4 := H_X_4.out
    replace H_Y_4 := H_Y_4.out
    replace H_W_4 := H_W_4.out
    replace H_Q_4 := H_Q_4.out
    replace H_R_4 := H_R_4.out
    replace H_F_4 := H_F_4.out
    refine chk (fun W => Below w.heap.size w W ∧ W.heap[gU]? = some (.cells #[.int .i64 ua, .int .i64 ub] 30 (0, 0)) ∧ W.heap[gX]? = some (.cells #[.int .i64 x1, .int .i64 x2] 32 (0, 0)) ∧ W.heap[gY]? = some (.cells #[.int .i64 y1, .int .i64 y2] 32 (0, 0)) ∧ W.heap[gW]? = some (.cells #[.int .i64 wa, .int .i64 wb] 30 (0, 0)) ∧ W.heap[gQ]? = some (.cells #[.int .i64 qd, .int .i64 qa, .int .i64 qc] 43 (0, 0)) ∧ W.heap[gR]? = some (.cells #[.int .i64 qd, .int .i64 qa, .int .i64 qc] 43 (0, 0)) ∧ W.heap[gF]? = some (.cells #[.int .i64 fa, .int .i64 fb] 30 (0, 0)) ∧ W.heap[w4.heap.size]? = some (.cells #[.int .i64 r, .int .i64 1] 32 (0, 0)) ∧ Below w4.heap.size w4 W) (by refine ⟨?_, ?_, ?_, ?_, ?_, ?_, ?_, ?_, ?_, ?_⟩ <;> (repeat' first | (with_reducible first | assumption | (apply Ne.symm; assumption) | apply Nat.le_refl | apply Nat.le_add_right | apply zL | apply zRf | apply Wx.box | apply Wx.box4 | apply zWa | apply Wx.drew | apply zWn | apply bx_drew | apply bx_drewN | apply bx_set3 | apply bx_set2 | apply bx_set4 | apply bx_set1) | ((with_reducible apply bx_new); (focus (go_size; done))) | (with_reducible first | apply zOl | apply zFa | apply zDn | apply zDr | apply zAl | apply zSt | refine zVi (by assumption) ?_ ?_) | go_size | omega)) ?_
    clear k_U_4_0 k_U_4_1 f_U_4 H_U_4
    clear k_X_4_0 k_X_4_1 f_X_4 H_X_4
    clear k_Y_4_0 k_Y_4_1 f_Y_4 H_Y_4
    clear k_W_4_0 k_W_4_1 f_W_4 H_W_4
    clear k_Q_4_0 k_Q_4_1 k_Q_4_2 f_Q_4 H_Q_4
    clear k_R_4_0 k_R_4_1 k_R_4_2 f_R_4 H_R_4
    clear k_F_4_0 k_F_4_1 f_F_4 H_F_4
    clear hB4
    rintro w5 ⟨hB5, H_U_5, H_X_5, H_Y_5, H_W_5, H_Q_5, H_R_5, H_F_5, H_Z_5, HBn⟩
    obtain ⟨k_U_5_0, k_U_5_1, f_U_5, l_U_5⟩ := bk2 H_U_5
    replace H_U_5 := Lib.hid H_U_5
    obtain ⟨k_X_5_0, k_X_5_1, f_X_5, l_X_5⟩ := bk2 H_X_5
    replace H_X_5 := Lib.hid H_X_5
    obtain ⟨k_Y_5_0, k_Y_5_1, f_Y_5, l_Y_5⟩ := bk2 H_Y_5
    replace H_Y_5 := Lib.hid H_Y_5
    obtain ⟨k_W_5_0, k_W_5_1, f_W_5, l_W_5⟩ := bk2 H_W_5
    replace H_W_5 := Lib.hid H_W_5
    obtain ⟨k_Q_5_0, k_Q_5_1, k_Q_5_2, f_Q_5, l_Q_5⟩ := bk3 H_Q_5
    replace H_Q_5 := Lib.hid H_Q_5
    obtain ⟨k_R_5_0, k_R_5_1, k_R_5_2, f_R_5, l_R_5⟩ := bk3 H_R_5
    replace H_R_5 := Lib.hid H_R_5
    obtain ⟨k_F_5_0, k_F_5_1, f_F_5, l_F_5⟩ := bk2 H_F_5
    replace H_F_5 := Lib.hid H_F_5
    obtain ⟨k_Z_5_0, k_Z_5_1, f_Z_5, l_Z_5⟩ := bk2 H_Z_5
    replace H_Z_5 := Lib.hid H_Z_5
    have hx5 := hx4.below HBn
    clear hx4 hS12 HBn q1 q2
    have sz5 := hB5.size
    have T5 := fun (W : World) (hW : Below w5.heap.size w5 W) => Lib.hid (qHas_yes (hx5.below hW) i1)
    have T6 := fun (W : World) (hW : Below w5.heap.size w5 W) => Lib.hid (qHas_yes (hx5.below hW) i2)
    go_cut [274] (fun sq wx => sq = .bool false ∧ Below w5.heap.size w5 wx)
    case first =>
      as_aux_lemma =>
        have mr := mul_bd (a := r) (b := r) (A := 31623) (B := 31623) (by omega) (by omega)
        clear F3 F4 F5 hall
        refine wp_drawn' (n := 25) (by kernel_rfl) (by kernel_rfl) (by kernel_rfl) ?_
        apply Exists.intro
        refine ⟨?_, ?_⟩
        · intro W hW
          try (have kx_w4_0_0 := fun x => xcell hW (w4.heap.size) (by go_size) x 0; simp [go_sem, *] at kx_w4_0_0)
          try (have kx_w4_0_1 := fun x => xcell hW (w4.heap.size) (by go_size) x 1; simp [go_sem, *] at kx_w4_0_1)
          simp only [List.take_succ_cons, List.take_zero]
          repeat (go_big_quiet_step ((first | (go_at_call 24; (with_reducible exact draw_of _ ((T5 _ (below_via (Over.lies _) (below_via hW (by repeat' first | (with_reducible first | apply zRf | assumption | apply zDn | apply zDr | apply zAl | apply zSt | refine zVi (by assumption) ?_ ?_) | go_size) (by go_size)) (by (have := hW.size; (try simp only [World.size_alloc, World.size_setCell, World.size_drew, World.size_drewN'] at this); omega)))).out))) | (go_at_call 24; (with_reducible exact draw_of _ ((T6 _ (below_via (Over.lies _) (below_via hW (by repeat' first | (with_reducible first | apply zRf | assumption | apply zDn | apply zDr | apply zAl | apply zSt | refine zVi (by assumption) ?_ ?_) | go_size) (by go_size)) (by (have := hW.size; (try simp only [World.size_alloc, World.size_setCell, World.size_drew, World.size_drewN'] at this); omega)))).out))))))
          exact wpQuiet_nil rfl
        intro w9 hb9
        simp only [List.drop_succ_cons, List.drop_zero, Act.put, List.setIfInBounds_toArray, List.set_cons_succ, List.set_cons_zero]
        have hz9 := hb9.size
        (try simp only [World.size_alloc, World.size_setCell, World.size_drew, World.size_drewN'] at hz9)
        (try (have kq := cellAt hb9 (w4.heap.size) (by go_size); have k9_w4_0_0 := kq 0; have k9_w4_0_1 := kq 1; clear kq; have f9_w4_0 := frozAt hb9 (w4.heap.size) (by go_size); simp [go_sem, *] at k9_w4_0_0 k9_w4_0_1 f9_w4_0))
        (try have l9_w4_0 : w4.heap.size < w9.heap.size := by omega)
        (try clear k5_w4_0_0 k5_w4_0_1 f5_w4_0)
        (try clear l5_w4_0)
        (try clear k6_w4_0_0 k6_w4_0_1 f6_w4_0)
        (try clear l6_w4_0)
        (try clear k7_w4_0_0 k7_w4_0_1 f7_w4_0)
        (try clear l7_w4_0)
        (try clear k8_w4_0_0 k8_w4_0_1 f8_w4_0)
        (try clear l8_w4_0)
        go_wp2_with fail
        go_meet
        exact ⟨by first | rfl | simp, by repeat' first | (with_reducible first | apply zRf | assumption | apply zDn | apply zDr | apply zAl | apply zSt | refine zVi (by assumption) ?_ ?_) | go_size⟩
    case rest =>
      obtain ⟨rfl, hb7⟩ := hcut
      generalize wc = w7 at *
      clear T5 T6 q5 hr br i1 i2
      clear k_Z_5_0
      clear k_Z_5_1
      clear f_Z_5 H_Z_5
      have H_U_7 := (hb7.block (gU) (blk_lt' H_U_5.out)).trans H_U_5.out
      clear k_U_5_0 k_U_5_1 f_U_5 H_U_5
      obtain ⟨k_U_7_0, k_U_7_1, f_U_7, l_U_7⟩ := bk2 H_U_7
      replace H_U_7 := Lib.hid H_U_7
      have H_X_7 := (hb7.block (gX) (blk_lt' H_X_5.out)).trans H_X_5.out
      clear k_X_5_0 k_X_5_1 f_X_5 H_X_5
      obtain ⟨k_X_7_0, k_X_7_1, f_X_7, l_X_7⟩ := bk2 H_X_7
      replace H_X_7 := Lib.hid H_X_7
      have H_Y_7 := (hb7.block (gY) (blk_lt' H_Y_5.out)).trans H_Y_5.out
      clear k_Y_5_0 k_Y_5_1 f_Y_5 H_Y_5
      obtain ⟨k_Y_7_0, k_Y_7_1, f_Y_7, l_Y_7⟩ := bk2 H_Y_7
      replace H_Y_7 := Lib.hid H_Y_7
      have H_W_7 := (hb7.block (gW) (blk_lt' H_W_5.out)).trans H_W_5.out
      clear k_W_5_0 k_W_5_1 f_W_5 H_W_5
      obtain ⟨k_W_7_0, k_W_7_1, f_W_7, l_W_7⟩ := bk2 H_W_7
      replace H_W_7 := Lib.hid H_W_7
      have H_Q_7 := (hb7.block (gQ) (blk_lt' H_Q_5.out)).trans H_Q_5.out
      clear k_Q_5_0 k_Q_5_1 k_Q_5_2 f_Q_5 H_Q_5
      obtain ⟨k_Q_7_0, k_Q_7_1, k_Q_7_2, f_Q_7, l_Q_7⟩ := bk3 H_Q_7
      replace H_Q_7 := Lib.hid H_Q_7
      have H_R_7 := (hb7.block (gR) (blk_lt' H_R_5.out)).trans H_R_5.out
      clear k_R_5_0 k_R_5_1 k_R_5_2 f_R_5 H_R_5
      obtain ⟨k_R_7_0, k_R_7_1, k_R_7_2, f_R_7, l_R_7⟩ := bk3 H_R_7
      replace H_R_7 := Lib.hid H_R_7
      have H_F_7 := (hb7.block (gF) (blk_lt' H_F_5.out)).trans H_F_5.out
      clear k_F_5_0 k_F_5_1 f_F_5 H_F_5
      obtain ⟨k_F_7_0, k_F_7_1, f_F_7, l_F_7⟩ := bk2 H_F_7
      replace H_F_7 := Lib.hid H_F_7
      have hB7 : Below w.heap.size w w7 := below_via hb7 (by assumption) (by first | exact hB5.size | go_size)
      have hx7 := hx5.below hb7
      clear hx5 hb7
      have hn12 := hx7.len
      go_upto_region 29 with fail
      go_loopw [277] (fun iv wr => ∃ k : Nat, k ≤ n12 ∧ iv = .int .i64 k ∧ Below w7.heap.size w7 wr) (fun iv _ => (n12 - intOf iv).toNat)
      case atStart => exact ⟨0, by omega, rfl, Below.refl _ _⟩
      case round =>
        obtain ⟨k, hk, rfl, hb9⟩ := hrel
        rename World => w9
        have H_U_9 := (hb9.block (gU) (blk_lt' H_U_7.out)).trans H_U_7.out
        clear k_U_7_0 k_U_7_1 f_U_7 H_U_7
        obtain ⟨k_U_9_0, k_U_9_1, f_U_9, l_U_9⟩ := bk2 H_U_9
        replace H_U_9 := Lib.hid H_U_9
        have H_X_9 := (hb9.block (gX) (blk_lt' H_X_7.out)).trans H_X_7.out
        clear k_X_7_0 k_X_7_1 f_X_7 H_X_7
        obtain ⟨k_X_9_0, k_X_9_1, f_X_9, l_X_9⟩ := bk2 H_X_9
        replace H_X_9 := Lib.hid H_X_9
        have H_Y_9 := (hb9.block (gY) (blk_lt' H_Y_7.out)).trans H_Y_7.out
        clear k_Y_7_0 k_Y_7_1 f_Y_7 H_Y_7
        obtain ⟨k_Y_9_0, k_Y_9_1, f_Y_9, l_Y_9⟩ := bk2 H_Y_9
        replace H_Y_9 := Lib.hid H_Y_9
        have H_W_9 := (hb9.block (gW) (blk_lt' H_W_7.out)).trans H_W_7.out
        clear k_W_7_0 k_W_7_1 f_W_7 H_W_7
        obtain ⟨k_W_9_0, k_W_9_1, f_W_9, l_W_9⟩ := bk2 H_W_9
        replace H_W_9 := Lib.hid H_W_9
        have H_Q_9 := (hb9.block (gQ) (blk_lt' H_Q_7.out)).trans H_Q_7.out
        clear k_Q_7_0 k_Q_7_1 k_Q_7_2 f_Q_7 H_Q_7
        obtain ⟨k_Q_9_0, k_Q_9_1, k_Q_9_2, f_Q_9, l_Q_9⟩ := bk3 H_Q_9
        replace H_Q_9 := Lib.hid H_Q_9
        have H_R_9 := (hb9.block (gR) (blk_lt' H_R_7.out)).trans H_R_7.out
        clear k_R_7_0 k_R_7_1 k_R_7_2 f_R_7 H_R_7
        obtain ⟨k_R_9_0, k_R_9_1, k_R_9_2, f_R_9, l_R_9⟩ := bk3 H_R_9
        replace H_R_9 := Lib.hid H_R_9
        have H_F_9 := (hb9.block (gF) (blk_lt' H_F_7.out)).trans H_F_7.out
        clear k_F_7_0 k_F_7_1 f_F_7 H_F_7
        obtain ⟨k_F_9_0, k_F_9_1, f_F_9, l_F_9⟩ := bk2 H_F_9
        replace H_F_9 := Lib.hid H_F_9
        have hB9 : Below w.heap.size w w9 := below_via hb9 (by assumption) (by first | exact hB7.size | go_size)
        have sz9 := hb9.size
        have hx9 := hx7.below hb9
        by_cases hkn : k < n12
        · obtain ⟨d0, bd, dm, dlt, dsy⟩ := hall.out k (by omega)
          obtain ⟨b, off, rfl, hb, hcs⟩ := hx9.at (by omega)
          have c0 := hcs k hkn
          have c2 : w9.cell? ⟨b, off + (n12 - 1 - k), none⟩ = some (.int .i64 (-(L[k]?.getD 0))) := by
            have h := hcs (n12 - 1 - k) (by omega)
            rw [show L[n12 - 1 - k]?.getD 0 = -(L[k]?.getD 0) by rw [show n12 - 1 - k = L.length - 1 - k by omega]; exact dsy] at h
            exact h
          obtain ⟨d1, hd1⟩ : ∃ d1, L[k]?.getD 0 = d1 := ⟨_, rfl⟩
          rw [hd1] at c0 d0 bd dm dlt c2
          have g1 : (n.tmod d1 != 0) = false := by simp [dm]
          have g2 : (-d1 != -d1) = false := by simp
          have hkc : (k : Int) < (n12 : Int) := by omega
          have c1 := fun j (hj : k = j + 1) => hcs j (by omega)
          replace c1 := Lib.hid c1
          replace dlt := Lib.hid dlt
          clear hcs dsy
          go_upto_region 31 with fail
          go_cut [311] (fun sq wx => sq = .bool false ∧ w9 = wx)
          case first =>
            as_aux_lemma =>
              clear F3 F4 F5
              by_cases hk0 : k = 0
              · subst hk0
                clear dlt c1
                rw [Nat.sub_zero] at c2
                have hz0 : decide ((0 : Int) < ((0 : Nat) : Int)) = false := by simp
                go_wp2_with fail
                go_meet
                exact ⟨by first | rfl | simp, rfl⟩
              · obtain ⟨j, rfl⟩ : ∃ j, k = j + 1 := ⟨k - 1, by omega⟩
                have k1 := c1.out j rfl
                have hlt := dlt.out (by omega)
                rw [show j + 1 - 1 = j by omega] at hlt
                obtain ⟨e, he⟩ : ∃ e, L[j]?.getD 0 = e := ⟨_, rfl⟩
                rw [he] at k1 hlt
                have hj1 : (((j + 1 : Nat) : Int) - 1) = (j : Int) := by omega
                have hw3 : IntKind.i64.wrap (((j + 1 : Nat) : Int) - 1) = (j : Int) := by rw [IntKind.wrap_i64]; omega
                have hw4 : IntKind.i64.wrap ((j : Int) + 1 - 1) = (j : Int) := by rw [IntKind.wrap_i64]; omega
                have hjn : (j : Int) < (n12 : Int) := by omega
                have hd2 : decide ((0 : Int) < (j : Int) + 1) = true := decide_eq_true (by omega)
                have hd3 : (0 : Int) < (j : Int) + 1 := by omega
                clear c1 dlt he
                go_wp2_with fail
                go_meet
                exact ⟨by first | rfl | (simp; done) | (simp; omega), rfl⟩
          case rest =>
            obtain ⟨rfl, hcw⟩ := hcut
            subst hcw
            clear g1 g2 c2
            go_wp2_with fail
            go_roundw
            case rel => first | exact ⟨k + 1, by omega, by first | rfl | go_num, by repeat' first | (with_reducible first | apply zRf | assumption | apply zDn | apply zDr | apply zAl | apply zSt | refine zVi (by assumption) ?_ ?_) | go_size⟩ | ((repeat (with_reducible apply Exists.intro)); exact ⟨⟨k + 1, by omega, by first | rfl | go_num, by repeat' first | (with_reducible first | apply zRf | assumption | apply zDn | apply zDr | apply zAl | apply zSt | refine zVi (by assumption) ?_ ?_) | go_size⟩, rfl⟩)
            case measure => simp [intOf]; omega
        · obtain rfl : k = n12 := by omega
          clear hall
          iterate 90 (first | ((with_reducible show Code.wp _ (.seq (.seq (.region 34 _ _) _) _) _ _ _); exact FnCl_34 hB9 H_U_9.out H_X_9.out H_Y_9.out H_W_9.out H_Q_9.out H_R_9.out H_F_9.out F3.out F4.out F5.out) | go_values | go_skip | go_guarded | go_step | go_upon | go_back | skip)
end Go.Proofs.Ytnemnkbcbokafaa
