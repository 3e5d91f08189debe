/- FnClasses: points of quartics. -/
import Derived.Test.YtnemnkbcbokafaaClb
namespace Go.Proofs.Ytnemnkbcbokafaa
open Go.RowKit
set_option linter.unusedVariables false
set_option maxHeartbeats 0
set_option maxRecDepth 20000
set_option linter.unusedSimpArgs false

theorem FnCl_34 {ua ub x1 x2 y1 y2 wa wb qd qa qc fa fb v d : Int} {o5 o7 o9 : Bool} {w W : World} {gU gX gY gW gQ gR gF : Nat} {u0 u1 u2 u3 u4 u5 u6 u7 u8 u9 u10 u11 u12 u13 u14 u15 u16 u17 u18 u19 u22 u23 u24 u25 u26 u30 u32 u36 u38 u41 u42 u43 u44 u45 u46 u47 u48 u49 u50 u51 u52 u53 u54 u55 u56 u57 u58 u59 u60 u61 u62 u63 u64 u65 u66 u67 u68 u69 u70 u71 u72 u73 u74 u75 u76 u77 u78 u79 u80 u81 u82 u83 u84 u85 u86 u87 u88 u89 u90 u91 u92 u93 u94 u95 u96 u97 u98 u99 u100 u101 u102 u103 u104 u105 u106 u107 u108 u109 u110 u111 u112 u113 u114 u115 u116 u117 u118 u119 u120 u121 u122 u123 u124 u125 u126 u127 u128 u129 u130 u131 u132 u133 u134 u135 u136 u137 u138 u139 u140 u141 u142 u143 u144 u145 u146 u147 u148 u149 u150 u151 u152 u153 u154 u155 u156 u157 u158 u159 u160 u161 u162 u163 u164 u165 u166 u167 u168 u169 u170 u171 u172 u173 u174 u175 u176 u177 u178 u179 u180 u181 u182 u183 u184 u185 u186 u187 u188 u189 u190 u191 u192 u193 u194 u195 u196 u197 u198 u199 u200 u201 u202 u203 u204 u205 u206 u207 u208 u209 u210 u211 u212 u213 u214 u215 u216 u217 u218 u219 u220 u221 u222 u223 u224 u225 u226 u227 u228 u229 u230 u231 u232 u233 u234 u235 u236 u237 u238 u239 u240 u241 u242 u243 u244 u245 u246 u247 u248 u249 u250 u251 u252 u253 u254 u255 u256 u257 u258 u259 u260 u261 u262 u263 u264 u265 u266 u267 u268 u269 u270 u271 u272 u273 u274 u275 u276 u277 u278 u279 u280 u281 u282 u283 u284 u285 u286 u287 u288 u289 u290 u291 u292 u293 u294 u295 u296 u297 u298 u299 u300 u301 u302 u303 u304 u305 u306 u307 u308 u309 u310 u311 u312 u313 u314 u315 u316 u317 u318 u319 u320 u321 u322 u323 u324 u325 u326 u327 u328 u329 u330 u331 u332 u333 u334 u335 u336 u337 u338 u339 u340 u341 u342 u343 u344 u345 u346 u347 u348 u349 u350 u351 u352 u353 u354 u355 u356 u357 u358 u359 u360 u361 u362 u363 u364 u365 u366 u367 u368 u369 u370 u371 u372 u373 u374 u375 u376 u377 u378 u379 u380 u381 u382 u383 u384 u385 u386 u387 u388 u389 u390 u391 u392 : Value}
    (hB : Below w.heap.size w W) (HU : W.heap[gU]? = some (.cells #[.int .i64 ua, .int .i64 ub] 30 (0, 0))) (HX : W.heap[gX]? = some (.cells #[.int .i64 x1, .int .i64 x2] 32 (0, 0))) (HY : W.heap[gY]? = some (.cells #[.int .i64 y1, .int .i64 y2] 32 (0, 0))) (HW : W.heap[gW]? = some (.cells #[.int .i64 wa, .int .i64 wb] 30 (0, 0))) (HQ : W.heap[gQ]? = some (.cells #[.int .i64 qd, .int .i64 qa, .int .i64 qc] 43 (0, 0))) (HR : W.heap[gR]? = some (.cells #[.int .i64 qd, .int .i64 qa, .int .i64 qc] 43 (0, 0))) (HF : W.heap[gF]? = some (.cells #[.int .i64 fa, .int .i64 fb] 30 (0, 0)))
    (F3 : (o5 = true → (∃ is told : Bool, RetC 25 #[.agg #[.int .i64 ua, .int .i64 ub], .agg #[.int .i64 x1, .int .i64 x2], .agg #[.int .i64 y1, .int .i64 y2]] (.tuple #[.bool is, .bool told]) ∧ (told = true → is = true)) ∧ ∃ c : Int, RetC 10 #[.agg #[.int .i64 ua, .int .i64 ub], .agg #[.int .i64 x1, .int .i64 x2]] (.tuple #[.int .i64 c, .bool true]) ∧ RetC 5 #[.int .i64 d] (.tuple #[.int .i64 c, .bool true])))
    (F4 : (o7 = true → (qd * qc = wb ∧ qa = wa ∧ -300 ≤ wb ∧ wb ≤ 300) ∧ RetC 26 #[.agg #[.int .i64 qd, .int .i64 qa, .int .i64 qc]] (.bool true)))
    (F5 : (o9 = true → (-300 ≤ fa ∧ fa ≤ 300) ∧ (-300 ≤ fb ∧ fb ≤ 300) ∧ ∃ (r1 r2 : Int) (q : Bool), RetC 23 #[.agg #[.int .i64 (fa * fa - 4 * fb), .int .i64 1]] (.tuple #[.agg #[.int .i64 r1, .int .i64 r2], .bool q]) ∧ ((v = 4 ∧ q = true) ∨ (v = 2 ∧ q = false))))
    : Code.wp Try.prog (dropTo 34 (bodyOf Try.f3)) (bodyPost Try.prog Try.f3 fun e w' => e = .returned (.bool true) ∧ Below w.heap.size w w') { tmps := #[u0, u1, u2, u3, u4, u5, u6, u7, u8, u9, u10, u11, u12, u13, u14, u15, u16, u17, u18, u19, .pointer (some ⟨gU, 0, none⟩), .int .i64 d, u22, u23, u24, u25, u26, .bool o5, .pointer (some ⟨gX, 0, none⟩), .pointer (some ⟨gY, 0, none⟩), u30, .pointer (some ⟨gW, 0, none⟩), u32, .pointer (some ⟨gR, 0, none⟩), .bool o7, .pointer (some ⟨gQ, 0, none⟩), u36, .pointer (some ⟨gF, 0, none⟩), u38, .bool o9, .int .i64 v, u41, u42, u43, u44, u45, u46, u47, u48, u49, u50, u51, u52, u53, u54, u55, u56, u57, u58, u59, u60, u61, u62, u63, u64, u65, u66, u67, u68, u69, u70, u71, u72, u73, u74, u75, u76, u77, u78, u79, u80, u81, u82, u83, u84, u85, u86, u87, u88, u89, u90, u91, u92, u93, u94, u95, u96, u97, u98, u99, u100, u101, u102, u103, u104, u105, u106, u107, u108, u109, u110, u111, u112, u113, u114, u115, u116, u117, u118, u119, u120, u121, u122, u123, u124, u125, u126, u127, u128, u129, u130, u131, u132, u133, u134, u135, u136, u137, u138, u139, u140, u141, u142, u143, u144, u145, u146, u147, u148, u149, u150, u151, u152, u153, u154, u155, u156, u157, u158, u159, u160, u161, u162, u163, u164, u165, u166, u167, u168, u169, u170, u171, u172, u173, u174, u175, u176, u177, u178, u179, u180, u181, u182, u183, u184, u185, u186, u187, u188, u189, u190, u191, u192, u193, u194, u195, u196, u197, u198, u199, u200, u201, u202, u203, u204, u205, u206, u207, u208, u209, u210, u211, u212, u213, u214, u215, u216, u217, u218, u219, u220, u221, u222, u223, u224, u225, u226, u227, u228, u229, u230, u231, u232, u233, u234, u235, u236, u237, u238, u239, u240, u241, u242, u243, u244, u245, u246, u247, u248, u249, u250, u251, u252, u253, u254, u255, u256, u257, u258, u259, u260, u261, u262, u263, u264, u265, u266, u267, u268, u269, u270, u271, u272, u273, u274, u275, u276, u277, u278, u279, u280, u281, u282, u283, u284, u285, u286, u287, u288, u289, u290, u291, u292, u293, u294, u295, u296, u297, u298, u299, u300, u301, u302, u303, u304, u305, u306, u307, u308, u309, u310, u311, u312, u313, u314, u315, u316, u317, u318, u319, u320, u321, u322, u323, u324, u325, u326, u327, u328, u329, u330, u331, u332, u333, u334, u335, u336, u337, u338, u339, u340, u341, u342, u343, u344, u345, u346, u347, u348, u349, u350, u351, u352, u353, u354, u355, u356, u357, u358, u359, u360, u361, u362, u363, u364, u365, u366, u367, u368, u369, u370, u371, u372, u373, u374, u375, u376, u377, u378, u379, u380, u381, u382, u383, u384, u385, u386, u387, u388, u389, u390, u391, u392], defers := [] } W := by
  replace F3 := Lib.hid F3
  replace F4 := Lib.hid F4
  replace F5 := Lib.hid F5
  have tok4 : True := trivial
  have tok5 : True := trivial
  have tok6 : True := trivial
  conv in dropTo _ _ => whnf
  dsimp only
  refine chk (fun W => Below w.heap.size w W ∧ W.heap[gU]? = some (.cells #[.int .i64 ua, .int .i64 ub] 30 (0, 0)) ∧ W.heap[gX]? = some (.cells #[.int .i64 x1, .int .i64 x2] 32 (0, 0)) ∧ W.heap[gY]? = some (.cells #[.int .i64 y1, .int .i64 y2] 32 (0, 0)) ∧ W.heap[gW]? = some (.cells #[.int .i64 wa, .int .i64 wb] 30 (0, 0)) ∧ W.heap[gQ]? = some (.cells #[.int .i64 qd, .int .i64 qa, .int .i64 qc] 43 (0, 0)) ∧ W.heap[gR]? = some (.cells #[.int .i64 qd, .int .i64 qa, .int .i64 qc] 43 (0, 0)) ∧ W.heap[gF]? = some (.cells #[.int .i64 fa, .int .i64 fb] 30 (0, 0))) (by refine ⟨?_, ?_, ?_, ?_, ?_, ?_, ?_, ?_⟩ <;> (repeat' first | (with_reducible first | assumption | (apply Ne.symm; assumption) | apply Nat.le_refl | apply Nat.le_add_right | apply zL | apply zRf | apply Wx.box | apply Wx.box4 | apply zWa | apply Wx.drew | apply zWn | apply bx_drew | apply bx_drewN | apply bx_set3 | apply bx_set2 | apply bx_set4 | apply bx_set1) | ((with_reducible apply bx_new); (focus (go_size; done))) | (with_reducible first | apply zOl | apply zFa | apply zDn | apply zDr | apply zAl | apply zSt | refine zVi (by assumption) ?_ ?_) | go_size | omega)) ?_
  rintro w2 ⟨hB2, H_U_2, H_X_2, H_Y_2, H_W_2, H_Q_2, H_R_2, H_F_2⟩
  obtain ⟨k_U_2_0, k_U_2_1, f_U_2, l_U_2⟩ := bk2 H_U_2
  replace H_U_2 := Lib.hid H_U_2
  obtain ⟨k_X_2_0, k_X_2_1, f_X_2, l_X_2⟩ := bk2 H_X_2
  replace H_X_2 := Lib.hid H_X_2
  obtain ⟨k_Y_2_0, k_Y_2_1, f_Y_2, l_Y_2⟩ := bk2 H_Y_2
  replace H_Y_2 := Lib.hid H_Y_2
  obtain ⟨k_W_2_0, k_W_2_1, f_W_2, l_W_2⟩ := bk2 H_W_2
  replace H_W_2 := Lib.hid H_W_2
  obtain ⟨k_Q_2_0, k_Q_2_1, k_Q_2_2, f_Q_2, l_Q_2⟩ := bk3 H_Q_2
  replace H_Q_2 := Lib.hid H_Q_2
  obtain ⟨k_R_2_0, k_R_2_1, k_R_2_2, f_R_2, l_R_2⟩ := bk3 H_R_2
  replace H_R_2 := Lib.hid H_R_2
  obtain ⟨k_F_2_0, k_F_2_1, f_F_2, l_F_2⟩ := bk2 H_F_2
  replace H_F_2 := Lib.hid H_F_2
  clear hB HU HX HY HW HQ HR HF
  have sz2 := hB2.size
  cases o5
  · have _t := trivial
    iterate 90 (first | ((with_reducible show Code.wp _ (.seq (.seq (.region 40 _ _) _) _) _ _ _); exact FnCl_40 hB2 H_W_2.out H_Q_2.out H_R_2.out H_F_2.out F4.out F5.out) | go_values | go_skip | go_guarded | go_step | go_upon | go_back | skip)
  · obtain ⟨⟨is, told, R4, ht⟩, c, R5, R6⟩ := F3.out rfl
    have T4 := fun W : World => Lib.hid (R4 W)
    have T5 := fun W : World => Lib.hid (R5 W)
    have T6 := fun W : World => Lib.hid (R6 W)
    have g1 : (c != c) = false := by simp
    clear F3 R4 R5 R6
    go_upto_region 36 with (first | (have _t := tok4; go_at_call 25; (with_reducible refine ((T4 _).out).mono ?_); rintro e w4 ⟨rfl, hb4⟩; clear tok4 _t; have hz4 := hb4.size; (try simp only [World.size_alloc, World.size_setCell, World.size_drew, World.size_drewN'] at hz4); (try (have kq := cellAt hb4 (gU) (by go_size); have k4_gU_0 := kq 0; have k4_gU_1 := kq 1; clear kq; have f4_gU := frozAt hb4 (gU) (by go_size); simp [go_sem, *] at k4_gU_0 k4_gU_1 f4_gU)); (try have l4_gU : gU < w4.heap.size := by omega); (try (have kq := cellAt hb4 (gX) (by go_size); have k4_gX_0 := kq 0; have k4_gX_1 := kq 1; clear kq; have f4_gX := frozAt hb4 (gX) (by go_size); simp [go_sem, *] at k4_gX_0 k4_gX_1 f4_gX)); (try have l4_gX : gX < w4.heap.size := by omega); (try (have kq := cellAt hb4 (gY) (by go_size); have k4_gY_0 := kq 0; have k4_gY_1 := kq 1; clear kq; have f4_gY := frozAt hb4 (gY) (by go_size); simp [go_sem, *] at k4_gY_0 k4_gY_1 f4_gY)); (try have l4_gY : gY < w4.heap.size := by omega); (try clear k1_gU_0 k1_gU_1 f1_gU); (try clear l1_gU); (try clear k1_gX_0 k1_gX_1 f1_gX); (try clear l1_gX); (try clear k1_gY_0 k1_gY_1 f1_gY); (try clear l1_gY); (try clear k2_gU_0 k2_gU_1 f2_gU); (try clear l2_gU); (try clear k2_gX_0 k2_gX_1 f2_gX); (try clear l2_gX); (try clear k2_gY_0 k2_gY_1 f2_gY); (try clear l2_gY); (try clear k3_gU_0 k3_gU_1 f3_gU); (try clear l3_gU); (try clear k3_gX_0 k3_gX_1 f3_gX); (try clear l3_gX); (try clear k3_gY_0 k3_gY_1 f3_gY); (try clear l3_gY)))
    have H_U_4 := (hb4.block (gU) (blk_lt' H_U_2.out)).trans H_U_2.out
    clear k_U_2_0 k_U_2_1 f_U_2 H_U_2
    obtain ⟨k_U_4_0, k_U_4_1, f_U_4, l_U_4⟩ := bk2 H_U_4
    replace H_U_4 := Lib.hid H_U_4
    have H_X_4 := (hb4.block (gX) (blk_lt' H_X_2.out)).trans H_X_2.out
    clear k_X_2_0 k_X_2_1 f_X_2 H_X_2
    obtain ⟨k_X_4_0, k_X_4_1, f_X_4, l_X_4⟩ := bk2 H_X_4
    replace H_X_4 := Lib.hid H_X_4
    have H_Y_4 := (hb4.block (gY) (blk_lt' H_Y_2.out)).trans H_Y_2.out
    clear k_Y_2_0 k_Y_2_1 f_Y_2 H_Y_2
    obtain ⟨k_Y_4_0, k_Y_4_1, f_Y_4, l_Y_4⟩ := bk2 H_Y_4
    replace H_Y_4 := Lib.hid H_Y_4
    have H_W_4 := (hb4.block (gW) (blk_lt' H_W_2.out)).trans H_W_2.out
    clear k_W_2_0 k_W_2_1 f_W_2 H_W_2
    obtain ⟨k_W_4_0, k_W_4_1, f_W_4, l_W_4⟩ := bk2 H_W_4
    replace H_W_4 := Lib.hid H_W_4
    have H_Q_4 := (hb4.block (gQ) (blk_lt' H_Q_2.out)).trans H_Q_2.out
    clear k_Q_2_0 k_Q_2_1 k_Q_2_2 f_Q_2 H_Q_2
    obtain ⟨k_Q_4_0, k_Q_4_1, k_Q_4_2, f_Q_4, l_Q_4⟩ := bk3 H_Q_4
    replace H_Q_4 := Lib.hid H_Q_4
    have H_R_4 := (hb4.block (gR) (blk_lt' H_R_2.out)).trans H_R_2.out
    clear k_R_2_0 k_R_2_1 k_R_2_2 f_R_2 H_R_2
    obtain ⟨k_R_4_0, k_R_4_1, k_R_4_2, f_R_4, l_R_4⟩ := bk3 H_R_4
    replace H_R_4 := Lib.hid H_R_4
    have H_F_4 := (hb4.block (gF) (blk_lt' H_F_2.out)).trans H_F_2.out
    clear k_F_2_0 k_F_2_1 f_F_2 H_F_2
    obtain ⟨k_F_4_0, k_F_4_1, f_F_4, l_F_4⟩ := bk2 H_F_4
    replace H_F_4 := Lib.hid H_F_4
    have hB4 : Below w.heap.size w w4 := below_via hb4 (by assumption) (by first | exact hB2.size | go_size)
    go_upto_region 37 with (first | (have _t := tok5; go_at_call 10; (with_reducible refine ((T5 _).out).mono ?_); rintro e w5 ⟨rfl, hb5⟩; clear tok5 _t; have hz5 := hb5.size; (try simp only [World.size_alloc, World.size_setCell, World.size_drew, World.size_drewN'] at hz5)))
    have H_U_5 := (hb5.block (gU) (blk_lt' H_U_4.out)).trans H_U_4.out
    clear k_U_4_0 k_U_4_1 f_U_4 H_U_4
    obtain ⟨k_U_5_0, k_U_5_1, f_U_5, l_U_5⟩ := bk2 H_U_5
    replace H_U_5 := Lib.hid H_U_5
    have H_X_5 := (hb5.block (gX) (blk_lt' H_X_4.out)).trans H_X_4.out
    clear k_X_4_0 k_X_4_1 f_X_4 H_X_4
    obtain ⟨k_X_5_0, k_X_5_1, f_X_5, l_X_5⟩ := bk2 H_X_5
    replace H_X_5 := Lib.hid H_X_5
    have H_Y_5 := (hb5.block (gY) (blk_lt' H_Y_4.out)).trans H_Y_4.out
    clear k_Y_4_0 k_Y_4_1 f_Y_4 H_Y_4
    obtain ⟨k_Y_5_0, k_Y_5_1, f_Y_5, l_Y_5⟩ := bk2 H_Y_5
    replace H_Y_5 := Lib.hid H_Y_5
    have H_W_5 := (hb5.block (gW) (blk_lt' H_W_4.out)).trans H_W_4.out
    clear k_W_4_0 k_W_4_1 f_W_4 H_W_4
    obtain ⟨k_W_5_0, k_W_5_1, f_W_5, l_W_5⟩ := bk2 H_W_5
    replace H_W_5 := Lib.hid H_W_5
    have H_Q_5 := (hb5.block (gQ) (blk_lt' H_Q_4.out)).trans H_Q_4.out
    clear k_Q_4_0 k_Q_4_1 k_Q_4_2 f_Q_4 H_Q_4
    obtain ⟨k_Q_5_0, k_Q_5_1, k_Q_5_2, f_Q_5, l_Q_5⟩ := bk3 H_Q_5
    replace H_Q_5 := Lib.hid H_Q_5
    have H_R_5 := (hb5.block (gR) (blk_lt' H_R_4.out)).trans H_R_4.out
    clear k_R_4_0 k_R_4_1 k_R_4_2 f_R_4 H_R_4
    obtain ⟨k_R_5_0, k_R_5_1, k_R_5_2, f_R_5, l_R_5⟩ := bk3 H_R_5
    replace H_R_5 := Lib.hid H_R_5
    have H_F_5 := (hb5.block (gF) (blk_lt' H_F_4.out)).trans H_F_4.out
    clear k_F_4_0 k_F_4_1 f_F_4 H_F_4
    obtain ⟨k_F_5_0, k_F_5_1, f_F_5, l_F_5⟩ := bk2 H_F_5
    replace H_F_5 := Lib.hid H_F_5
    have hB5 : Below w.heap.size w w5 := below_via hb5 (by assumption) (by first | exact hB4.size | go_size)
    go_upto_region 38 with (first | (have _t := tok6; go_at_call 5; (with_reducible refine ((T6 _).out).mono ?_); rintro e w6 ⟨rfl, hb6⟩; clear tok6 _t; have hz6 := hb6.size; (try simp only [World.size_alloc, World.size_setCell, World.size_drew, World.size_drewN'] at hz6)))
    have H_U_6 := (hb6.block (gU) (blk_lt' H_U_5.out)).trans H_U_5.out
    clear k_U_5_0 k_U_5_1 f_U_5 H_U_5
    obtain ⟨k_U_6_0, k_U_6_1, f_U_6, l_U_6⟩ := bk2 H_U_6
    replace H_U_6 := Lib.hid H_U_6
    have H_X_6 := (hb6.block (gX) (blk_lt' H_X_5.out)).trans H_X_5.out
    clear k_X_5_0 k_X_5_1 f_X_5 H_X_5
    obtain ⟨k_X_6_0, k_X_6_1, f_X_6, l_X_6⟩ := bk2 H_X_6
    replace H_X_6 := Lib.hid H_X_6
    have H_Y_6 := (hb6.block (gY) (blk_lt' H_Y_5.out)).trans H_Y_5.out
    clear k_Y_5_0 k_Y_5_1 f_Y_5 H_Y_5
    obtain ⟨k_Y_6_0, k_Y_6_1, f_Y_6, l_Y_6⟩ := bk2 H_Y_6
    replace H_Y_6 := Lib.hid H_Y_6
    have H_W_6 := (hb6.block (gW) (blk_lt' H_W_5.out)).trans H_W_5.out
    clear k_W_5_0 k_W_5_1 f_W_5 H_W_5
    obtain ⟨k_W_6_0, k_W_6_1, f_W_6, l_W_6⟩ := bk2 H_W_6
    replace H_W_6 := Lib.hid H_W_6
    have H_Q_6 := (hb6.block (gQ) (blk_lt' H_Q_5.out)).trans H_Q_5.out
    clear k_Q_5_0 k_Q_5_1 k_Q_5_2 f_Q_5 H_Q_5
    obtain ⟨k_Q_6_0, k_Q_6_1, k_Q_6_2, f_Q_6, l_Q_6⟩ := bk3 H_Q_6
    replace H_Q_6 := Lib.hid H_Q_6
    have H_R_6 := (hb6.block (gR) (blk_lt' H_R_5.out)).trans H_R_5.out
    clear k_R_5_0 k_R_5_1 k_R_5_2 f_R_5 H_R_5
    obtain ⟨k_R_6_0, k_R_6_1, k_R_6_2, f_R_6, l_R_6⟩ := bk3 H_R_6
    replace H_R_6 := Lib.hid H_R_6
    have H_F_6 := (hb6.block (gF) (blk_lt' H_F_5.out)).trans H_F_5.out
    clear k_F_5_0 k_F_5_1 f_F_5 H_F_5
    obtain ⟨k_F_6_0, k_F_6_1, f_F_6, l_F_6⟩ := bk2 H_F_6
    replace H_F_6 := Lib.hid H_F_6
    have hB6 : Below w.heap.size w w6 := below_via hb6 (by assumption) (by first | exact hB5.size | go_size)
    clear T4 T5 T6 hb4 hb5 hb6
    go_cut [349] (fun sq wx => sq = .bool false ∧ w6 = wx)
    case first =>
      as_aux_lemma =>
        clear F4 F5
        rcases told with _ | _
        · clear ht
          go_wp2_with fail
          all_goals (go_meet; exact ⟨by first | rfl | simp, rfl⟩)
        · obtain rfl := ht rfl
          go_wp2_with fail
          all_goals (go_meet; exact ⟨by first | rfl | simp, rfl⟩)
    case rest =>
      obtain ⟨rfl, hcw⟩ := hcut
      subst hcw
      clear g1 ht
      iterate 90 (first | ((with_reducible show Code.wp _ (.seq (.seq (.region 40 _ _) _) _) _ _ _); exact FnCl_40 hB6 H_W_6.out H_Q_6.out H_R_6.out H_F_6.out F4.out F5.out) | go_values | go_skip | go_guarded | go_step | go_upon | go_back | skip)
end Go.Proofs.Ytnemnkbcbokafaa
