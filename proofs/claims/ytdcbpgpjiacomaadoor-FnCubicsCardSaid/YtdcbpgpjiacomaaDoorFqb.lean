/- FnCubics from the cubic turned round on. -/
import Derived.Test.YtdcbpgpjiacomaaDoorFqa
namespace Go.Proofs.YtdcbpgpjiacomaaDoor
open Go.RowKit
set_option linter.unusedVariables false
set_option maxHeartbeats 0
set_option maxRecDepth 20000
set_option linter.unusedSimpArgs false

theorem FnCu_37 {ga gb gc gd R1 R2 R3 R4 ha hb hc hd m e A : Int} {o3 o7 : Bool} {w W : World} {gG gR gH gX : Nat} {u0 u1 u2 u3 u4 u5 u6 u7 u8 u9 u10 u12 u13 u14 u15 u16 u17 u20 u21 u22 u23 u24 u25 u28 u31 u32 u33 u34 u35 u36 u37 u38 u39 u40 u41 u42 u43 u44 u45 u46 u47 u48 u49 u50 u51 u52 u53 u54 u55 u56 u57 u58 u59 u60 u61 u62 u63 u64 u65 u66 u67 u68 u69 u70 u71 u72 u73 u74 u75 u76 u77 u78 u79 u80 u81 u82 u83 u84 u85 u86 u87 u88 u89 u90 u91 u92 u93 u94 u95 u96 u97 u98 u99 u100 u101 u102 u103 u104 u105 u106 u107 u108 u109 u110 u111 u112 u113 u114 u115 u116 u117 u118 u119 u120 u121 u122 u123 u124 u125 u126 u127 u128 u129 u130 u131 u132 u133 u134 u135 u136 u137 u138 u139 u140 u141 u142 u143 u144 u145 u146 u147 u148 u149 u150 u151 u152 u153 u154 u155 u156 u157 u158 u159 u160 u161 u162 u163 u164 u165 u166 u167 u168 u169 u170 u171 u172 u173 u174 u175 u176 u177 u178 u179 u180 u181 u182 u183 u184 u185 u186 u187 u188 u189 u190 u191 u192 u193 u194 u195 u196 u197 u198 u199 u200 u201 u202 u203 u204 u205 u206 u207 u208 u209 u210 u211 u212 u213 u214 u215 u216 u217 u218 u219 u220 u221 u222 u223 u224 u225 u226 u227 u228 u229 u230 u231 u232 u233 u234 u235 u236 u237 u238 u239 u240 u241 u242 u243 u244 u245 u246 u247 u248 u249 u250 u251 u252 u253 u254 u255 u256 u257 u258 u259 u260 u261 u262 u263 u264 u265 u266 u267 u268 u269 u270 u271 u272 u273 u274 u275 u276 u277 u278 u279 u280 u281 u282 u283 u284 u285 u286 u287 u288 u289 u290 u291 u292 u293 u294 u295 u296 u297 u298 u299 u300 u301 u302 u303 u304 u305 u306 u307 u308 u309 u310 u311 u312 u313 u314 u315 u316 u317 u318 u319 u320 u321 u322 u323 u324 u325 u326 u327 u328 u329 u330 u331 u332 u333 u334 u335 u336 u337 u338 u339 u340 u341 u342 u343 u344 u345 u346 u347 u348 u349 u350 u351 u352 u353 u354 u355 u356 u357 u358 u359 u360 u361 u362 u363 : Value}
    (hB : Below w.heap.size w W) (HG : W.heap[gG]? = some (.cells #[.int .i64 ga, .int .i64 gb, .int .i64 gc, .int .i64 gd] 42 (0, 0))) (HR : W.heap[gR]? = some (.cells #[.int .i64 R1, .int .i64 R2, .int .i64 R3, .int .i64 R4] 42 (0, 0))) (HH : W.heap[gH]? = some (.cells #[.int .i64 ha, .int .i64 hb, .int .i64 hc, .int .i64 hd] 42 (0, 0))) (HX : W.heap[gX]? = some (.cells #[.int .i64 m, .int .i64 e] 34 (0, 0)))
    (Fr : (o3 = true → RetC 16 #[.agg #[.int .i64 R1, .int .i64 R2, .int .i64 R3, .int .i64 R4]] (.tuple #[.agg #[.int .i64 ga, .int .i64 gb, .int .i64 gc, .int .i64 gd], .bool true])))
    (Fa : (o7 = true → e = 1 → ∃ v : Int, RetC 24 #[.agg #[.int .i64 ha, .int .i64 hb, .int .i64 hc, .int .i64 hd], .int .i64 m] (.tuple #[.int .i64 v, .bool true]) ∧ decide (0 < v) = (A == 1) ∧ decide (v < 0) = (A == -1)))
    : Code.wp Tryd.prog (dropTo 37 (bodyOf Tryd.f4)) (bodyPost Tryd.prog Tryd.f4 fun e w' => e = .returned (.bool true) ∧ Below w.heap.size w w') { tmps := #[u0, u1, u2, u3, u4, u5, u6, u7, u8, u9, u10, .pointer (some ⟨gG, 0, none⟩), u12, u13, u14, u15, u16, u17, .pointer (some ⟨gR, 0, none⟩), .bool o3, u20, u21, u22, u23, u24, u25, .pointer (some ⟨gH, 0, none⟩), .pointer (some ⟨gX, 0, none⟩), u28, .bool o7, .int .i64 A, u31, u32, u33, u34, u35, u36, u37, u38, u39, u40, u41, u42, u43, u44, u45, u46, u47, u48, u49, u50, u51, u52, u53, u54, u55, u56, u57, u58, u59, u60, u61, u62, u63, u64, u65, u66, u67, u68, u69, u70, u71, u72, u73, u74, u75, u76, u77, u78, u79, u80, u81, u82, u83, u84, u85, u86, u87, u88, u89, u90, u91, u92, u93, u94, u95, u96, u97, u98, u99, u100, u101, u102, u103, u104, u105, u106, u107, u108, u109, u110, u111, u112, u113, u114, u115, u116, u117, u118, u119, u120, u121, u122, u123, u124, u125, u126, u127, u128, u129, u130, u131, u132, u133, u134, u135, u136, u137, u138, u139, u140, u141, u142, u143, u144, u145, u146, u147, u148, u149, u150, u151, u152, u153, u154, u155, u156, u157, u158, u159, u160, u161, u162, u163, u164, u165, u166, u167, u168, u169, u170, u171, u172, u173, u174, u175, u176, u177, u178, u179, u180, u181, u182, u183, u184, u185, u186, u187, u188, u189, u190, u191, u192, u193, u194, u195, u196, u197, u198, u199, u200, u201, u202, u203, u204, u205, u206, u207, u208, u209, u210, u211, u212, u213, u214, u215, u216, u217, u218, u219, u220, u221, u222, u223, u224, u225, u226, u227, u228, u229, u230, u231, u232, u233, u234, u235, u236, u237, u238, u239, u240, u241, u242, u243, u244, u245, u246, u247, u248, u249, u250, u251, u252, u253, u254, u255, u256, u257, u258, u259, u260, u261, u262, u263, u264, u265, u266, u267, u268, u269, u270, u271, u272, u273, u274, u275, u276, u277, u278, u279, u280, u281, u282, u283, u284, u285, u286, u287, u288, u289, u290, u291, u292, u293, u294, u295, u296, u297, u298, u299, u300, u301, u302, u303, u304, u305, u306, u307, u308, u309, u310, u311, u312, u313, u314, u315, u316, u317, u318, u319, u320, u321, u322, u323, u324, u325, u326, u327, u328, u329, u330, u331, u332, u333, u334, u335, u336, u337, u338, u339, u340, u341, u342, u343, u344, u345, u346, u347, u348, u349, u350, u351, u352, u353, u354, u355, u356, u357, u358, u359, u360, u361, u362, u363], defers := [] } W := by
  replace Fr := Lib.hid Fr
  replace Fa := Lib.hid Fa
  have tok3 : True := trivial
  conv in dropTo _ _ => whnf
  dsimp only
  refine chk (fun W => Below w.heap.size w W ∧ W.heap[gG]? = some (.cells #[.int .i64 ga, .int .i64 gb, .int .i64 gc, .int .i64 gd] 42 (0, 0)) ∧ W.heap[gR]? = some (.cells #[.int .i64 R1, .int .i64 R2, .int .i64 R3, .int .i64 R4] 42 (0, 0)) ∧ W.heap[gH]? = some (.cells #[.int .i64 ha, .int .i64 hb, .int .i64 hc, .int .i64 hd] 42 (0, 0)) ∧ W.heap[gX]? = some (.cells #[.int .i64 m, .int .i64 e] 34 (0, 0))) (by refine ⟨?_, ?_, ?_, ?_, ?_⟩ <;> (repeat' first | (with_reducible first | assumption | (apply Ne.symm; assumption) | apply Nat.le_refl | apply Nat.le_add_right | apply zL | apply zRf | apply Wx.box | apply Wx.box4 | apply zWa | apply Wx.drew | apply zWn | apply bx_drew | apply bx_drewN | apply bx_set3 | apply bx_set2 | apply bx_set4 | apply bx_set1) | ((with_reducible apply bx_new); (focus (go_size; done))) | (with_reducible first | apply zOl | apply zFa | apply zDn | apply zDr | apply zAl | apply zSt | refine zVi (by assumption) ?_ ?_) | go_size | omega)) ?_
  rintro w2 ⟨hB2, H_G_2, H_R_2, H_H_2, H_X_2⟩
  obtain ⟨k_G_2_0, k_G_2_1, k_G_2_2, k_G_2_3, f_G_2, l_G_2⟩ := bk4 H_G_2
  replace H_G_2 := Lib.hid H_G_2
  obtain ⟨k_R_2_0, k_R_2_1, k_R_2_2, k_R_2_3, f_R_2, l_R_2⟩ := bk4 H_R_2
  replace H_R_2 := Lib.hid H_R_2
  obtain ⟨k_H_2_0, k_H_2_1, k_H_2_2, k_H_2_3, f_H_2, l_H_2⟩ := bk4 H_H_2
  replace H_H_2 := Lib.hid H_H_2
  obtain ⟨k_X_2_0, k_X_2_1, f_X_2, l_X_2⟩ := bk2 H_X_2
  replace H_X_2 := Lib.hid H_X_2
  clear hB HG HR HH HX
  cases o3
  · have _t := trivial
    iterate 60 (first | (exact FnCu_41 hB2 H_H_2.out H_X_2.out Fa.out) | go_values | go_skip | go_guarded | go_step | go_upon | go_back | skip)
  · have T3 := fun W : World => Lib.hid (Fr.out rfl W)
    go_upto_region 39 with (first | (have _t := tok3; go_at_call 16; (with_reducible refine ((T3 _).out).mono ?_); rintro e w3 ⟨rfl, hb3⟩; clear tok3 _t; have hz3 := hb3.size; (try simp only [World.size_alloc, World.size_setCell, World.size_drew, World.size_drewN'] at hz3); (try (have kq := cellAt hb3 (gR) (by go_size); have k3_gR_0 := kq 0; have k3_gR_1 := kq 1; have k3_gR_2 := kq 2; have k3_gR_3 := kq 3; clear kq; have f3_gR := frozAt hb3 (gR) (by go_size); simp [go_sem, *] at k3_gR_0 k3_gR_1 k3_gR_2 k3_gR_3 f3_gR)); (try have l3_gR : gR < w3.heap.size := by omega); (try clear k1_gR_0 k1_gR_1 k1_gR_2 k1_gR_3 f1_gR); (try clear l1_gR); (try clear k2_gR_0 k2_gR_1 k2_gR_2 k2_gR_3 f2_gR); (try clear l2_gR)))
    have H_G_3 := (hb3.block (gG) (blk_lt' H_G_2.out)).trans H_G_2.out
    clear k_G_2_0 k_G_2_1 k_G_2_2 k_G_2_3 f_G_2 H_G_2
    obtain ⟨k_G_3_0, k_G_3_1, k_G_3_2, k_G_3_3, f_G_3, l_G_3⟩ := bk4 H_G_3
    replace H_G_3 := Lib.hid H_G_3
    have H_R_3 := (hb3.block (gR) (blk_lt' H_R_2.out)).trans H_R_2.out
    clear k_R_2_0 k_R_2_1 k_R_2_2 k_R_2_3 f_R_2 H_R_2
    obtain ⟨k_R_3_0, k_R_3_1, k_R_3_2, k_R_3_3, f_R_3, l_R_3⟩ := bk4 H_R_3
    replace H_R_3 := Lib.hid H_R_3
    have H_H_3 := (hb3.block (gH) (blk_lt' H_H_2.out)).trans H_H_2.out
    clear k_H_2_0 k_H_2_1 k_H_2_2 k_H_2_3 f_H_2 H_H_2
    obtain ⟨k_H_3_0, k_H_3_1, k_H_3_2, k_H_3_3, f_H_3, l_H_3⟩ := bk4 H_H_3
    replace H_H_3 := Lib.hid H_H_3
    have H_X_3 := (hb3.block (gX) (blk_lt' H_X_2.out)).trans H_X_2.out
    clear k_X_2_0 k_X_2_1 f_X_2 H_X_2
    obtain ⟨k_X_3_0, k_X_3_1, f_X_3, l_X_3⟩ := bk2 H_X_3
    replace H_X_3 := Lib.hid H_X_3
    have hB3 : Below w.heap.size w w3 := below_via hb3 (by assumption) (by first | exact hB2.size | go_size)
    clear hb3 T3 Fr
    have sz1 := hB3.size
    replace H_G_3 := H_G_3.out
    replace H_R_3 := H_R_3.out
    replace H_H_3 := H_H_3.out
    replace H_X_3 := H_X_3.out
    refine chk (fun W => Below w.heap.size w W ∧ W.heap[gG]? = some (.cells #[.int .i64 ga, .int .i64 gb, .int .i64 gc, .int .i64 gd] 42 (0, 0)) ∧ W.heap[gR]? = some (.cells #[.int .i64 R1, .int .i64 R2, .int .i64 R3, .int .i64 R4] 42 (0, 0)) ∧ W.heap[gH]? = some (.cells #[.int .i64 ha, .int .i64 hb, .int .i64 hc, .int .i64 hd] 42 (0, 0)) ∧ W.heap[gX]? = some (.cells #[.int .i64 m, .int .i64 e] 34 (0, 0)) ∧ W.heap[w3.heap.size]? = some (.cells #[.int .i64 ga, .int .i64 gb, .int .i64 gc, .int .i64 gd] 42 (0, 0))) (by refine ⟨?_, ?_, ?_, ?_, ?_, ?_⟩ <;> (repeat' first | (with_reducible first | assumption | (apply Ne.symm; assumption) | apply Nat.le_refl | apply Nat.le_add_right | apply zL | apply zRf | apply Wx.box | apply Wx.box4 | apply zWa | apply Wx.drew | apply zWn | apply bx_drew | apply bx_drewN | apply bx_set3 | apply bx_set2 | apply bx_set4 | apply bx_set1) | ((with_reducible apply bx_new); (focus (go_size; done))) | (with_reducible first | apply zOl | apply zFa | apply zDn | apply zDr | apply zAl | apply zSt | refine zVi (by assumption) ?_ ?_) | go_size | omega)) ?_
    clear k_G_3_0 k_G_3_1 k_G_3_2 k_G_3_3 f_G_3 H_G_3
    clear k_R_3_0 k_R_3_1 k_R_3_2 k_R_3_3 f_R_3 H_R_3
    clear k_H_3_0 k_H_3_1 k_H_3_2 k_H_3_3 f_H_3 H_H_3
    clear k_X_3_0 k_X_3_1 f_X_3 H_X_3
    clear hB3
    rintro w4 ⟨hB4, H_G_4, H_R_4, H_H_4, H_X_4, H_Bk_4⟩
    obtain ⟨k_G_4_0, k_G_4_1, k_G_4_2, k_G_4_3, f_G_4, l_G_4⟩ := bk4 H_G_4
    replace H_G_4 := Lib.hid H_G_4
    obtain ⟨k_R_4_0, k_R_4_1, k_R_4_2, k_R_4_3, f_R_4, l_R_4⟩ := bk4 H_R_4
    replace H_R_4 := Lib.hid H_R_4
    obtain ⟨k_H_4_0, k_H_4_1, k_H_4_2, k_H_4_3, f_H_4, l_H_4⟩ := bk4 H_H_4
    replace H_H_4 := Lib.hid H_H_4
    obtain ⟨k_X_4_0, k_X_4_1, f_X_4, l_X_4⟩ := bk2 H_X_4
    replace H_X_4 := Lib.hid H_X_4
    obtain ⟨k_Bk_4_0, k_Bk_4_1, k_Bk_4_2, k_Bk_4_3, f_Bk_4, l_Bk_4⟩ := bk4 H_Bk_4
    replace H_Bk_4 := Lib.hid H_Bk_4
    have EG := fun W => neqCu_same ga gb gc gd W
    go_cut [334] (fun sq wx => sq = .bool false ∧ Below w4.heap.size w4 wx)
    case first =>
      as_aux_lemma =>
        clear Fa
        go_wp2_with fail
        go_meet
        exact ⟨rfl, by repeat' first | (with_reducible first | apply zRf | assumption | apply zDn | apply zDr | apply zAl | apply zSt | refine zVi (by assumption) ?_ ?_) | go_size⟩
    case rest =>
      obtain ⟨rfl, hb5⟩ := hcut
      generalize wc = w5 at *
      clear EG
      clear k_G_4_0
      clear k_G_4_1
      clear k_G_4_2
      clear k_G_4_3
      clear f_G_4 H_G_4
      clear k_R_4_0
      clear k_R_4_1
      clear k_R_4_2
      clear k_R_4_3
      clear f_R_4 H_R_4
      clear k_Bk_4_0
      clear k_Bk_4_1
      clear k_Bk_4_2
      clear k_Bk_4_3
      clear f_Bk_4 H_Bk_4
      have H_H_5 := (hb5.block (gH) (blk_lt' H_H_4.out)).trans H_H_4.out
      clear k_H_4_0 k_H_4_1 k_H_4_2 k_H_4_3 f_H_4 H_H_4
      obtain ⟨k_H_5_0, k_H_5_1, k_H_5_2, k_H_5_3, f_H_5, l_H_5⟩ := bk4 H_H_5
      replace H_H_5 := Lib.hid H_H_5
      have H_X_5 := (hb5.block (gX) (blk_lt' H_X_4.out)).trans H_X_4.out
      clear k_X_4_0 k_X_4_1 f_X_4 H_X_4
      obtain ⟨k_X_5_0, k_X_5_1, f_X_5, l_X_5⟩ := bk2 H_X_5
      replace H_X_5 := Lib.hid H_X_5
      have hB5 : Below w.heap.size w w5 := below_via hb5 (by assumption) (by first | exact hB4.size | go_size)
      clear hb5
      iterate 60 (first | (exact FnCu_41 hB5 H_H_5.out H_X_5.out Fa.out) | go_values | go_skip | go_guarded | go_step | go_upon | go_back | skip)
end Go.Proofs.YtdcbpgpjiacomaaDoor
