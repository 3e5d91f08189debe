/- FnCubics from the shifted cubic on. -/
import Derived.Test.YtdcbpgpjiacomaaDoorFqc
namespace Go.Proofs.YtdcbpgpjiacomaaDoor
open Go.RowKit
set_option linter.unusedVariables false
set_option maxHeartbeats 0
set_option maxRecDepth 20000
set_option linter.unusedSimpArgs false

theorem FnCu_21 {a b c d S1 S2 S3 S4 ga gb gc gd C1 C2 C3 C4 R1 R2 R3 R4 ha hb hc hd m e k N A : Int} {o1 o2 o3 o7 : Bool} {w W : World} {gF gS gG gC gD gR gH gX : Nat} {u0 u1 u2 u3 u4 u9 u10 u12 u17 u20 u21 u22 u23 u24 u25 u28 u31 u32 u33 u34 u35 u36 u37 u38 u39 u40 u41 u42 u43 u44 u45 u46 u47 u48 u49 u50 u51 u52 u53 u54 u55 u56 u57 u58 u59 u60 u61 u62 u63 u64 u65 u66 u67 u68 u69 u70 u71 u72 u73 u74 u75 u76 u77 u78 u79 u80 u81 u82 u83 u84 u85 u86 u87 u88 u89 u90 u91 u92 u93 u94 u95 u96 u97 u98 u99 u100 u101 u102 u103 u104 u105 u106 u107 u108 u109 u110 u111 u112 u113 u114 u115 u116 u117 u118 u119 u120 u121 u122 u123 u124 u125 u126 u127 u128 u129 u130 u131 u132 u133 u134 u135 u136 u137 u138 u139 u140 u141 u142 u143 u144 u145 u146 u147 u148 u149 u150 u151 u152 u153 u154 u155 u156 u157 u158 u159 u160 u161 u162 u163 u164 u165 u166 u167 u168 u169 u170 u171 u172 u173 u174 u175 u176 u177 u178 u179 u180 u181 u182 u183 u184 u185 u186 u187 u188 u189 u190 u191 u192 u193 u194 u195 u196 u197 u198 u199 u200 u201 u202 u203 u204 u205 u206 u207 u208 u209 u210 u211 u212 u213 u214 u215 u216 u217 u218 u219 u220 u221 u222 u223 u224 u225 u226 u227 u228 u229 u230 u231 u232 u233 u234 u235 u236 u237 u238 u239 u240 u241 u242 u243 u244 u245 u246 u247 u248 u249 u250 u251 u252 u253 u254 u255 u256 u257 u258 u259 u260 u261 u262 u263 u264 u265 u266 u267 u268 u269 u270 u271 u272 u273 u274 u275 u276 u277 u278 u279 u280 u281 u282 u283 u284 u285 u286 u287 u288 u289 u290 u291 u292 u293 u294 u295 u296 u297 u298 u299 u300 u301 u302 u303 u304 u305 u306 u307 u308 u309 u310 u311 u312 u313 u314 u315 u316 u317 u318 u319 u320 u321 u322 u323 u324 u325 u326 u327 u328 u329 u330 u331 u332 u333 u334 u335 u336 u337 u338 u339 u340 u341 u342 u343 u344 u345 u346 u347 u348 u349 u350 u351 u352 u353 u354 u355 u356 u357 u358 u359 u360 u361 u362 u363 : Value}
    (hB : Below w.heap.size w W) (HF : W.heap[gF]? = some (.cells #[.int .i64 a, .int .i64 b, .int .i64 c, .int .i64 d] 42 (0, 0))) (HS : W.heap[gS]? = some (.cells #[.int .i64 S1, .int .i64 S2, .int .i64 S3, .int .i64 S4] 42 (0, 0))) (HG : W.heap[gG]? = some (.cells #[.int .i64 ga, .int .i64 gb, .int .i64 gc, .int .i64 gd] 42 (0, 0))) (HC : W.heap[gC]? = some (.cells #[.int .i64 C1, .int .i64 C2, .int .i64 C3, .int .i64 C4] 42 (0, 0))) (HD : W.heap[gD]? = some (.cells #[.int .i64 C1, .int .i64 C2, .int .i64 C3, .int .i64 C4] 42 (0, 0))) (HR : W.heap[gR]? = some (.cells #[.int .i64 R1, .int .i64 R2, .int .i64 R3, .int .i64 R4] 42 (0, 0))) (HH : W.heap[gH]? = some (.cells #[.int .i64 ha, .int .i64 hb, .int .i64 hc, .int .i64 hd] 42 (0, 0))) (HX : W.heap[gX]? = some (.cells #[.int .i64 m, .int .i64 e] 34 (0, 0)))
    (hk : -11 ≤ k ∧ k ≤ 11)
    (Fs : (o1 = true → RetC 11 #[.agg #[.int .i64 S1, .int .i64 S2, .int .i64 S3, .int .i64 S4], .int .i64 (-k)] (.tuple #[.agg #[.int .i64 a, .int .i64 b, .int .i64 c, .int .i64 d], .bool true])))
    (Fx : (o1 = true → ∀ x : Int, -3 ≤ x → x ≤ 3 → ∃ v : Int, RetC 24 #[.agg #[.int .i64 S1, .int .i64 S2, .int .i64 S3, .int .i64 S4], .int .i64 x] (.tuple #[.int .i64 v, .bool true]) ∧ RetC 24 #[.agg #[.int .i64 a, .int .i64 b, .int .i64 c, .int .i64 d], .int .i64 (x + k)] (.tuple #[.int .i64 v, .bool true]) ∧ RetC 25 #[.agg #[.int .i64 a, .int .i64 b, .int .i64 c, .int .i64 d], .int .i64 (x + k)] (.tuple #[.int .i64 v, .bool true])))
    (Fn : (o2 = true → ∃ q1 q2 q3 q4 : Int, RetC 14 #[.agg #[.int .i64 C1, .int .i64 C2, .int .i64 C3, .int .i64 C4]] (.tuple #[.int .i64 1, .agg #[.int .i64 q1, .int .i64 q2, .int .i64 q3, .int .i64 q4], .bool true]) ∧ 1 ≤ N ∧ wrap64 (C1 * N) = ga ∧ wrap64 (C4 * N) = gd))
    (Fr : (o3 = true → RetC 16 #[.agg #[.int .i64 R1, .int .i64 R2, .int .i64 R3, .int .i64 R4]] (.tuple #[.agg #[.int .i64 ga, .int .i64 gb, .int .i64 gc, .int .i64 gd], .bool true])))
    (Fa : (o7 = true → e = 1 → ∃ v : Int, RetC 24 #[.agg #[.int .i64 ha, .int .i64 hb, .int .i64 hc, .int .i64 hd], .int .i64 m] (.tuple #[.int .i64 v, .bool true]) ∧ decide (0 < v) = (A == 1) ∧ decide (v < 0) = (A == -1)))
    : Code.wp Tryd.prog (dropTo 21 (bodyOf Tryd.f4)) (bodyPost Tryd.prog Tryd.f4 fun e w' => e = .returned (.bool true) ∧ Below w.heap.size w w') { tmps := #[u0, u1, u2, u3, u4, .pointer (some ⟨gF, 0, none⟩), .int .i64 k, .pointer (some ⟨gS, 0, none⟩), .bool o1, u9, u10, .pointer (some ⟨gG, 0, none⟩), u12, .pointer (some ⟨gC, 0, none⟩), .bool o2, .int .i64 N, .pointer (some ⟨gD, 0, none⟩), u17, .pointer (some ⟨gR, 0, none⟩), .bool o3, u20, u21, u22, u23, u24, u25, .pointer (some ⟨gH, 0, none⟩), .pointer (some ⟨gX, 0, none⟩), u28, .bool o7, .int .i64 A, u31, u32, u33, u34, u35, u36, u37, u38, u39, u40, u41, u42, u43, u44, u45, u46, u47, u48, u49, u50, u51, u52, u53, u54, u55, u56, u57, u58, u59, u60, u61, u62, u63, u64, u65, u66, u67, u68, u69, u70, u71, u72, u73, u74, u75, u76, u77, u78, u79, u80, u81, u82, u83, u84, u85, u86, u87, u88, u89, u90, u91, u92, u93, u94, u95, u96, u97, u98, u99, u100, u101, u102, u103, u104, u105, u106, u107, u108, u109, u110, u111, u112, u113, u114, u115, u116, u117, u118, u119, u120, u121, u122, u123, u124, u125, u126, u127, u128, u129, u130, u131, u132, u133, u134, u135, u136, u137, u138, u139, u140, u141, u142, u143, u144, u145, u146, u147, u148, u149, u150, u151, u152, u153, u154, u155, u156, u157, u158, u159, u160, u161, u162, u163, u164, u165, u166, u167, u168, u169, u170, u171, u172, u173, u174, u175, u176, u177, u178, u179, u180, u181, u182, u183, u184, u185, u186, u187, u188, u189, u190, u191, u192, u193, u194, u195, u196, u197, u198, u199, u200, u201, u202, u203, u204, u205, u206, u207, u208, u209, u210, u211, u212, u213, u214, u215, u216, u217, u218, u219, u220, u221, u222, u223, u224, u225, u226, u227, u228, u229, u230, u231, u232, u233, u234, u235, u236, u237, u238, u239, u240, u241, u242, u243, u244, u245, u246, u247, u248, u249, u250, u251, u252, u253, u254, u255, u256, u257, u258, u259, u260, u261, u262, u263, u264, u265, u266, u267, u268, u269, u270, u271, u272, u273, u274, u275, u276, u277, u278, u279, u280, u281, u282, u283, u284, u285, u286, u287, u288, u289, u290, u291, u292, u293, u294, u295, u296, u297, u298, u299, u300, u301, u302, u303, u304, u305, u306, u307, u308, u309, u310, u311, u312, u313, u314, u315, u316, u317, u318, u319, u320, u321, u322, u323, u324, u325, u326, u327, u328, u329, u330, u331, u332, u333, u334, u335, u336, u337, u338, u339, u340, u341, u342, u343, u344, u345, u346, u347, u348, u349, u350, u351, u352, u353, u354, u355, u356, u357, u358, u359, u360, u361, u362, u363], defers := [] } W := by
  replace Fs := Lib.hid Fs
  replace Fx := Lib.hid Fx
  replace Fn := Lib.hid Fn
  replace Fr := Lib.hid Fr
  replace Fa := Lib.hid Fa
  have tok3 : True := trivial
  have tok6 : True := trivial
  have tok7 : True := trivial
  have tok8 : True := trivial
  conv in dropTo _ _ => whnf
  dsimp only
  refine chk (fun W => Below w.heap.size w W ∧ W.heap[gF]? = some (.cells #[.int .i64 a, .int .i64 b, .int .i64 c, .int .i64 d] 42 (0, 0)) ∧ W.heap[gS]? = some (.cells #[.int .i64 S1, .int .i64 S2, .int .i64 S3, .int .i64 S4] 42 (0, 0)) ∧ W.heap[gG]? = some (.cells #[.int .i64 ga, .int .i64 gb, .int .i64 gc, .int .i64 gd] 42 (0, 0)) ∧ W.heap[gC]? = some (.cells #[.int .i64 C1, .int .i64 C2, .int .i64 C3, .int .i64 C4] 42 (0, 0)) ∧ W.heap[gD]? = some (.cells #[.int .i64 C1, .int .i64 C2, .int .i64 C3, .int .i64 C4] 42 (0, 0)) ∧ W.heap[gR]? = some (.cells #[.int .i64 R1, .int .i64 R2, .int .i64 R3, .int .i64 R4] 42 (0, 0)) ∧ W.heap[gH]? = some (.cells #[.int .i64 ha, .int .i64 hb, .int .i64 hc, .int .i64 hd] 42 (0, 0)) ∧ W.heap[gX]? = some (.cells #[.int .i64 m, .int .i64 e] 34 (0, 0))) (by refine ⟨?_, ?_, ?_, ?_, ?_, ?_, ?_, ?_, ?_⟩ <;> (repeat' first | (with_reducible first | assumption | (apply Ne.symm; assumption) | apply Nat.le_refl | apply Nat.le_add_right | apply zL | apply zRf | apply Wx.box | apply Wx.box4 | apply zWa | apply Wx.drew | apply zWn | apply bx_drew | apply bx_drewN | apply bx_set3 | apply bx_set2 | apply bx_set4 | apply bx_set1) | ((with_reducible apply bx_new); (focus (go_size; done))) | (with_reducible first | apply zOl | apply zFa | apply zDn | apply zDr | apply zAl | apply zSt | refine zVi (by assumption) ?_ ?_) | go_size | omega)) ?_
  rintro w2 ⟨hB2, H_F_2, H_S_2, H_G_2, H_C_2, H_D_2, H_R_2, H_H_2, H_X_2⟩
  obtain ⟨k_F_2_0, k_F_2_1, k_F_2_2, k_F_2_3, f_F_2, l_F_2⟩ := bk4 H_F_2
  replace H_F_2 := Lib.hid H_F_2
  obtain ⟨k_S_2_0, k_S_2_1, k_S_2_2, k_S_2_3, f_S_2, l_S_2⟩ := bk4 H_S_2
  replace H_S_2 := Lib.hid H_S_2
  obtain ⟨k_G_2_0, k_G_2_1, k_G_2_2, k_G_2_3, f_G_2, l_G_2⟩ := bk4 H_G_2
  replace H_G_2 := Lib.hid H_G_2
  obtain ⟨k_C_2_0, k_C_2_1, k_C_2_2, k_C_2_3, f_C_2, l_C_2⟩ := bk4 H_C_2
  replace H_C_2 := Lib.hid H_C_2
  obtain ⟨k_D_2_0, k_D_2_1, k_D_2_2, k_D_2_3, f_D_2, l_D_2⟩ := bk4 H_D_2
  replace H_D_2 := Lib.hid H_D_2
  obtain ⟨k_R_2_0, k_R_2_1, k_R_2_2, k_R_2_3, f_R_2, l_R_2⟩ := bk4 H_R_2
  replace H_R_2 := Lib.hid H_R_2
  obtain ⟨k_H_2_0, k_H_2_1, k_H_2_2, k_H_2_3, f_H_2, l_H_2⟩ := bk4 H_H_2
  replace H_H_2 := Lib.hid H_H_2
  obtain ⟨k_X_2_0, k_X_2_1, f_X_2, l_X_2⟩ := bk2 H_X_2
  replace H_X_2 := Lib.hid H_X_2
  clear hB HF HS HG HC HD HR HH HX
  cases o1
  · have _t := trivial
    iterate 60 (first | (exact FnCu_33 hB2 H_G_2.out H_C_2.out H_D_2.out H_R_2.out H_H_2.out H_X_2.out Fn.out Fr.out Fa.out) | go_values | go_skip | go_guarded | go_step | go_upon | go_back | skip)
  · have T3 := fun W : World => Lib.hid (Fs.out rfl W)
    clear Fs
    go_upto_region 23 with (first | (have _t := tok3; go_at_call 11; (with_reducible refine ((T3 _).out).mono ?_); rintro e w3 ⟨rfl, hb3⟩; clear tok3 _t; have hz3 := hb3.size; (try simp only [World.size_alloc, World.size_setCell, World.size_drew, World.size_drewN'] at hz3); (try (have kq := cellAt hb3 (gS) (by go_size); have k3_gS_0 := kq 0; have k3_gS_1 := kq 1; have k3_gS_2 := kq 2; have k3_gS_3 := kq 3; clear kq; have f3_gS := frozAt hb3 (gS) (by go_size); simp [go_sem, *] at k3_gS_0 k3_gS_1 k3_gS_2 k3_gS_3 f3_gS)); (try have l3_gS : gS < w3.heap.size := by omega); (try clear k1_gS_0 k1_gS_1 k1_gS_2 k1_gS_3 f1_gS); (try clear l1_gS); (try clear k2_gS_0 k2_gS_1 k2_gS_2 k2_gS_3 f2_gS); (try clear l2_gS)))
    have H_F_3 := (hb3.block (gF) (blk_lt' H_F_2.out)).trans H_F_2.out
    clear k_F_2_0 k_F_2_1 k_F_2_2 k_F_2_3 f_F_2 H_F_2
    obtain ⟨k_F_3_0, k_F_3_1, k_F_3_2, k_F_3_3, f_F_3, l_F_3⟩ := bk4 H_F_3
    replace H_F_3 := Lib.hid H_F_3
    have H_S_3 := (hb3.block (gS) (blk_lt' H_S_2.out)).trans H_S_2.out
    clear k_S_2_0 k_S_2_1 k_S_2_2 k_S_2_3 f_S_2 H_S_2
    obtain ⟨k_S_3_0, k_S_3_1, k_S_3_2, k_S_3_3, f_S_3, l_S_3⟩ := bk4 H_S_3
    replace H_S_3 := Lib.hid H_S_3
    have H_G_3 := (hb3.block (gG) (blk_lt' H_G_2.out)).trans H_G_2.out
    clear k_G_2_0 k_G_2_1 k_G_2_2 k_G_2_3 f_G_2 H_G_2
    obtain ⟨k_G_3_0, k_G_3_1, k_G_3_2, k_G_3_3, f_G_3, l_G_3⟩ := bk4 H_G_3
    replace H_G_3 := Lib.hid H_G_3
    have H_C_3 := (hb3.block (gC) (blk_lt' H_C_2.out)).trans H_C_2.out
    clear k_C_2_0 k_C_2_1 k_C_2_2 k_C_2_3 f_C_2 H_C_2
    obtain ⟨k_C_3_0, k_C_3_1, k_C_3_2, k_C_3_3, f_C_3, l_C_3⟩ := bk4 H_C_3
    replace H_C_3 := Lib.hid H_C_3
    have H_D_3 := (hb3.block (gD) (blk_lt' H_D_2.out)).trans H_D_2.out
    clear k_D_2_0 k_D_2_1 k_D_2_2 k_D_2_3 f_D_2 H_D_2
    obtain ⟨k_D_3_0, k_D_3_1, k_D_3_2, k_D_3_3, f_D_3, l_D_3⟩ := bk4 H_D_3
    replace H_D_3 := Lib.hid H_D_3
    have H_R_3 := (hb3.block (gR) (blk_lt' H_R_2.out)).trans H_R_2.out
    clear k_R_2_0 k_R_2_1 k_R_2_2 k_R_2_3 f_R_2 H_R_2
    obtain ⟨k_R_3_0, k_R_3_1, k_R_3_2, k_R_3_3, f_R_3, l_R_3⟩ := bk4 H_R_3
    replace H_R_3 := Lib.hid H_R_3
    have H_H_3 := (hb3.block (gH) (blk_lt' H_H_2.out)).trans H_H_2.out
    clear k_H_2_0 k_H_2_1 k_H_2_2 k_H_2_3 f_H_2 H_H_2
    obtain ⟨k_H_3_0, k_H_3_1, k_H_3_2, k_H_3_3, f_H_3, l_H_3⟩ := bk4 H_H_3
    replace H_H_3 := Lib.hid H_H_3
    have H_X_3 := (hb3.block (gX) (blk_lt' H_X_2.out)).trans H_X_2.out
    clear k_X_2_0 k_X_2_1 f_X_2 H_X_2
    obtain ⟨k_X_3_0, k_X_3_1, f_X_3, l_X_3⟩ := bk2 H_X_3
    replace H_X_3 := Lib.hid H_X_3
    have hB3 : Below w.heap.size w w3 := below_via hb3 (by assumption) (by first | exact hB2.size | go_size)
    clear hb3 T3
    have sz1 := hB3.size
    replace H_F_3 := H_F_3.out
    replace H_S_3 := H_S_3.out
    replace H_G_3 := H_G_3.out
    replace H_C_3 := H_C_3.out
    replace H_D_3 := H_D_3.out
    replace H_R_3 := H_R_3.out
    replace H_H_3 := H_H_3.out
    replace H_X_3 := H_X_3.out
    refine chk (fun W => Below w.heap.size w W ∧ W.heap[gF]? = some (.cells #[.int .i64 a, .int .i64 b, .int .i64 c, .int .i64 d] 42 (0, 0)) ∧ W.heap[gS]? = some (.cells #[.int .i64 S1, .int .i64 S2, .int .i64 S3, .int .i64 S4] 42 (0, 0)) ∧ W.heap[gG]? = some (.cells #[.int .i64 ga, .int .i64 gb, .int .i64 gc, .int .i64 gd] 42 (0, 0)) ∧ W.heap[gC]? = some (.cells #[.int .i64 C1, .int .i64 C2, .int .i64 C3, .int .i64 C4] 42 (0, 0)) ∧ W.heap[gD]? = some (.cells #[.int .i64 C1, .int .i64 C2, .int .i64 C3, .int .i64 C4] 42 (0, 0)) ∧ W.heap[gR]? = some (.cells #[.int .i64 R1, .int .i64 R2, .int .i64 R3, .int .i64 R4] 42 (0, 0)) ∧ W.heap[gH]? = some (.cells #[.int .i64 ha, .int .i64 hb, .int .i64 hc, .int .i64 hd] 42 (0, 0)) ∧ W.heap[gX]? = some (.cells #[.int .i64 m, .int .i64 e] 34 (0, 0)) ∧ W.heap[w3.heap.size]? = some (.cells #[.int .i64 a, .int .i64 b, .int .i64 c, .int .i64 d] 42 (0, 0))) (by refine ⟨?_, ?_, ?_, ?_, ?_, ?_, ?_, ?_, ?_, ?_⟩ <;> (repeat' first | (with_reducible first | assumption | (apply Ne.symm; assumption) | apply Nat.le_refl | apply Nat.le_add_right | apply zL | apply zRf | apply Wx.box | apply Wx.box4 | apply zWa | apply Wx.drew | apply zWn | apply bx_drew | apply bx_drewN | apply bx_set3 | apply bx_set2 | apply bx_set4 | apply bx_set1) | ((with_reducible apply bx_new); (focus (go_size; done))) | (with_reducible first | apply zOl | apply zFa | apply zDn | apply zDr | apply zAl | apply zSt | refine zVi (by assumption) ?_ ?_) | go_size | omega)) ?_
    clear k_F_3_0 k_F_3_1 k_F_3_2 k_F_3_3 f_F_3 H_F_3
    clear k_S_3_0 k_S_3_1 k_S_3_2 k_S_3_3 f_S_3 H_S_3
    clear k_G_3_0 k_G_3_1 k_G_3_2 k_G_3_3 f_G_3 H_G_3
    clear k_C_3_0 k_C_3_1 k_C_3_2 k_C_3_3 f_C_3 H_C_3
    clear k_D_3_0 k_D_3_1 k_D_3_2 k_D_3_3 f_D_3 H_D_3
    clear k_R_3_0 k_R_3_1 k_R_3_2 k_R_3_3 f_R_3 H_R_3
    clear k_H_3_0 k_H_3_1 k_H_3_2 k_H_3_3 f_H_3 H_H_3
    clear k_X_3_0 k_X_3_1 f_X_3 H_X_3
    clear hB3
    rintro w4 ⟨hB4, H_F_4, H_S_4, H_G_4, H_C_4, H_D_4, H_R_4, H_H_4, H_X_4, H_Bk_4⟩
    obtain ⟨k_F_4_0, k_F_4_1, k_F_4_2, k_F_4_3, f_F_4, l_F_4⟩ := bk4 H_F_4
    replace H_F_4 := Lib.hid H_F_4
    obtain ⟨k_S_4_0, k_S_4_1, k_S_4_2, k_S_4_3, f_S_4, l_S_4⟩ := bk4 H_S_4
    replace H_S_4 := Lib.hid H_S_4
    obtain ⟨k_G_4_0, k_G_4_1, k_G_4_2, k_G_4_3, f_G_4, l_G_4⟩ := bk4 H_G_4
    replace H_G_4 := Lib.hid H_G_4
    obtain ⟨k_C_4_0, k_C_4_1, k_C_4_2, k_C_4_3, f_C_4, l_C_4⟩ := bk4 H_C_4
    replace H_C_4 := Lib.hid H_C_4
    obtain ⟨k_D_4_0, k_D_4_1, k_D_4_2, k_D_4_3, f_D_4, l_D_4⟩ := bk4 H_D_4
    replace H_D_4 := Lib.hid H_D_4
    obtain ⟨k_R_4_0, k_R_4_1, k_R_4_2, k_R_4_3, f_R_4, l_R_4⟩ := bk4 H_R_4
    replace H_R_4 := Lib.hid H_R_4
    obtain ⟨k_H_4_0, k_H_4_1, k_H_4_2, k_H_4_3, f_H_4, l_H_4⟩ := bk4 H_H_4
    replace H_H_4 := Lib.hid H_H_4
    obtain ⟨k_X_4_0, k_X_4_1, f_X_4, l_X_4⟩ := bk2 H_X_4
    replace H_X_4 := Lib.hid H_X_4
    obtain ⟨k_Bk_4_0, k_Bk_4_1, k_Bk_4_2, k_Bk_4_3, f_Bk_4, l_Bk_4⟩ := bk4 H_Bk_4
    replace H_Bk_4 := Lib.hid H_Bk_4
    have EF := fun W => neqCu_same a b c d W
    go_cut [240] (fun sq wx => sq = .bool false ∧ Below w4.heap.size w4 wx)
    case first =>
      as_aux_lemma =>
        clear Fa Fr Fn Fx
        go_wp2_with fail
        go_meet
        exact ⟨rfl, by repeat' first | (with_reducible first | apply zRf | assumption | apply zDn | apply zDr | apply zAl | apply zSt | refine zVi (by assumption) ?_ ?_) | go_size⟩
    case rest =>
      obtain ⟨rfl, hb5⟩ := hcut
      generalize wc = w5 at *
      clear EF
      clear k_Bk_4_0
      clear k_Bk_4_1
      clear k_Bk_4_2
      clear k_Bk_4_3
      clear f_Bk_4 H_Bk_4
      have H_F_5 := (hb5.block (gF) (blk_lt' H_F_4.out)).trans H_F_4.out
      clear k_F_4_0 k_F_4_1 k_F_4_2 k_F_4_3 f_F_4 H_F_4
      obtain ⟨k_F_5_0, k_F_5_1, k_F_5_2, k_F_5_3, f_F_5, l_F_5⟩ := bk4 H_F_5
      replace H_F_5 := Lib.hid H_F_5
      have H_S_5 := (hb5.block (gS) (blk_lt' H_S_4.out)).trans H_S_4.out
      clear k_S_4_0 k_S_4_1 k_S_4_2 k_S_4_3 f_S_4 H_S_4
      obtain ⟨k_S_5_0, k_S_5_1, k_S_5_2, k_S_5_3, f_S_5, l_S_5⟩ := bk4 H_S_5
      replace H_S_5 := Lib.hid H_S_5
      have H_G_5 := (hb5.block (gG) (blk_lt' H_G_4.out)).trans H_G_4.out
      clear k_G_4_0 k_G_4_1 k_G_4_2 k_G_4_3 f_G_4 H_G_4
      obtain ⟨k_G_5_0, k_G_5_1, k_G_5_2, k_G_5_3, f_G_5, l_G_5⟩ := bk4 H_G_5
      replace H_G_5 := Lib.hid H_G_5
      have H_C_5 := (hb5.block (gC) (blk_lt' H_C_4.out)).trans H_C_4.out
      clear k_C_4_0 k_C_4_1 k_C_4_2 k_C_4_3 f_C_4 H_C_4
      obtain ⟨k_C_5_0, k_C_5_1, k_C_5_2, k_C_5_3, f_C_5, l_C_5⟩ := bk4 H_C_5
      replace H_C_5 := Lib.hid H_C_5
      have H_D_5 := (hb5.block (gD) (blk_lt' H_D_4.out)).trans H_D_4.out
      clear k_D_4_0 k_D_4_1 k_D_4_2 k_D_4_3 f_D_4 H_D_4
      obtain ⟨k_D_5_0, k_D_5_1, k_D_5_2, k_D_5_3, f_D_5, l_D_5⟩ := bk4 H_D_5
      replace H_D_5 := Lib.hid H_D_5
      have H_R_5 := (hb5.block (gR) (blk_lt' H_R_4.out)).trans H_R_4.out
      clear k_R_4_0 k_R_4_1 k_R_4_2 k_R_4_3 f_R_4 H_R_4
      obtain ⟨k_R_5_0, k_R_5_1, k_R_5_2, k_R_5_3, f_R_5, l_R_5⟩ := bk4 H_R_5
      replace H_R_5 := Lib.hid H_R_5
      have H_H_5 := (hb5.block (gH) (blk_lt' H_H_4.out)).trans H_H_4.out
      clear k_H_4_0 k_H_4_1 k_H_4_2 k_H_4_3 f_H_4 H_H_4
      obtain ⟨k_H_5_0, k_H_5_1, k_H_5_2, k_H_5_3, f_H_5, l_H_5⟩ := bk4 H_H_5
      replace H_H_5 := Lib.hid H_H_5
      have H_X_5 := (hb5.block (gX) (blk_lt' H_X_4.out)).trans H_X_4.out
      clear k_X_4_0 k_X_4_1 f_X_4 H_X_4
      obtain ⟨k_X_5_0, k_X_5_1, f_X_5, l_X_5⟩ := bk2 H_X_5
      replace H_X_5 := Lib.hid H_X_5
      have hB5 : Below w.heap.size w w5 := below_via hb5 (by assumption) (by first | exact hB4.size | go_size)
      clear hb5
      go_upto_region 26 with fail
      go_loopw [40] (fun iv wr => ∃ x : Int, (-3 ≤ x ∧ x ≤ 4) ∧ iv = .int .i64 x ∧ Below w5.heap.size w5 wr) (fun iv _ => (4 - intOf iv).toNat)
      case atStart => exact ⟨-3, by omega, rfl, Below.refl _ _⟩
      case round =>
        obtain ⟨x, hx, rfl, hb9⟩ := hrel
        rename World => w9
        have H_F_9 := (hb9.block (gF) (blk_lt' H_F_5.out)).trans H_F_5.out
        clear k_F_5_0 k_F_5_1 k_F_5_2 k_F_5_3 f_F_5 H_F_5
        obtain ⟨k_F_9_0, k_F_9_1, k_F_9_2, k_F_9_3, f_F_9, l_F_9⟩ := bk4 H_F_9
        replace H_F_9 := Lib.hid H_F_9
        have H_S_9 := (hb9.block (gS) (blk_lt' H_S_5.out)).trans H_S_5.out
        clear k_S_5_0 k_S_5_1 k_S_5_2 k_S_5_3 f_S_5 H_S_5
        obtain ⟨k_S_9_0, k_S_9_1, k_S_9_2, k_S_9_3, f_S_9, l_S_9⟩ := bk4 H_S_9
        replace H_S_9 := Lib.hid H_S_9
        have H_G_9 := (hb9.block (gG) (blk_lt' H_G_5.out)).trans H_G_5.out
        clear k_G_5_0 k_G_5_1 k_G_5_2 k_G_5_3 f_G_5 H_G_5
        obtain ⟨k_G_9_0, k_G_9_1, k_G_9_2, k_G_9_3, f_G_9, l_G_9⟩ := bk4 H_G_9
        replace H_G_9 := Lib.hid H_G_9
        have H_C_9 := (hb9.block (gC) (blk_lt' H_C_5.out)).trans H_C_5.out
        clear k_C_5_0 k_C_5_1 k_C_5_2 k_C_5_3 f_C_5 H_C_5
        obtain ⟨k_C_9_0, k_C_9_1, k_C_9_2, k_C_9_3, f_C_9, l_C_9⟩ := bk4 H_C_9
        replace H_C_9 := Lib.hid H_C_9
        have H_D_9 := (hb9.block (gD) (blk_lt' H_D_5.out)).trans H_D_5.out
        clear k_D_5_0 k_D_5_1 k_D_5_2 k_D_5_3 f_D_5 H_D_5
        obtain ⟨k_D_9_0, k_D_9_1, k_D_9_2, k_D_9_3, f_D_9, l_D_9⟩ := bk4 H_D_9
        replace H_D_9 := Lib.hid H_D_9
        have H_R_9 := (hb9.block (gR) (blk_lt' H_R_5.out)).trans H_R_5.out
        clear k_R_5_0 k_R_5_1 k_R_5_2 k_R_5_3 f_R_5 H_R_5
        obtain ⟨k_R_9_0, k_R_9_1, k_R_9_2, k_R_9_3, f_R_9, l_R_9⟩ := bk4 H_R_9
        replace H_R_9 := Lib.hid H_R_9
        have H_H_9 := (hb9.block (gH) (blk_lt' H_H_5.out)).trans H_H_5.out
        clear k_H_5_0 k_H_5_1 k_H_5_2 k_H_5_3 f_H_5 H_H_5
        obtain ⟨k_H_9_0, k_H_9_1, k_H_9_2, k_H_9_3, f_H_9, l_H_9⟩ := bk4 H_H_9
        replace H_H_9 := Lib.hid H_H_9
        have H_X_9 := (hb9.block (gX) (blk_lt' H_X_5.out)).trans H_X_5.out
        clear k_X_5_0 k_X_5_1 f_X_5 H_X_5
        obtain ⟨k_X_9_0, k_X_9_1, f_X_9, l_X_9⟩ := bk2 H_X_9
        replace H_X_9 := Lib.hid H_X_9
        have hB9 : Below w.heap.size w w9 := below_via hb9 (by assumption) (by first | exact hB5.size | go_size)
        by_cases hx3 : x ≤ 3
        · obtain ⟨v, R6, R7, R8⟩ := Fx.out (by simp) x hx.1 hx3
          have sz9 := hb9.size
          have T6 := fun W : World => Lib.hid (R6 W)
          have T7 := fun W : World => Lib.hid (R7 W)
          have T8 := fun W : World => Lib.hid (R8 W)
          clear Fx Fa Fr Fn R6 R7 R8
          have v1 : (v != v) = false := by simp
          go_wp2_with (first | (have _t := tok6; go_at_call 24; (with_reducible refine ((T6 _).out).mono ?_); rintro e w6 ⟨rfl, hb6⟩; clear tok6 _t; have hz6 := hb6.size; (try simp only [World.size_alloc, World.size_setCell, World.size_drew, World.size_drewN'] at hz6); (try (have kq := cellAt hb6 (gS) (by go_size); have k6_gS_0 := kq 0; have k6_gS_1 := kq 1; have k6_gS_2 := kq 2; have k6_gS_3 := kq 3; clear kq; have f6_gS := frozAt hb6 (gS) (by go_size); simp [go_sem, *] at k6_gS_0 k6_gS_1 k6_gS_2 k6_gS_3 f6_gS)); (try have l6_gS : gS < w6.heap.size := by omega); (try (have kq := cellAt hb6 (gF) (by go_size); have k6_gF_0 := kq 0; have k6_gF_1 := kq 1; have k6_gF_2 := kq 2; have k6_gF_3 := kq 3; clear kq; have f6_gF := frozAt hb6 (gF) (by go_size); simp [go_sem, *] at k6_gF_0 k6_gF_1 k6_gF_2 k6_gF_3 f6_gF)); (try have l6_gF : gF < w6.heap.size := by omega); (try clear k2_gS_0 k2_gS_1 k2_gS_2 k2_gS_3 f2_gS); (try clear l2_gS); (try clear k2_gF_0 k2_gF_1 k2_gF_2 k2_gF_3 f2_gF); (try clear l2_gF); (try clear k3_gS_0 k3_gS_1 k3_gS_2 k3_gS_3 f3_gS); (try clear l3_gS); (try clear k3_gF_0 k3_gF_1 k3_gF_2 k3_gF_3 f3_gF); (try clear l3_gF); (try clear k4_gS_0 k4_gS_1 k4_gS_2 k4_gS_3 f4_gS); (try clear l4_gS); (try clear k4_gF_0 k4_gF_1 k4_gF_2 k4_gF_3 f4_gF); (try clear l4_gF); (try clear k5_gS_0 k5_gS_1 k5_gS_2 k5_gS_3 f5_gS); (try clear l5_gS); (try clear k5_gF_0 k5_gF_1 k5_gF_2 k5_gF_3 f5_gF); (try clear l5_gF)) | (have _t := tok7; go_at_call 24; (with_reducible refine ((T7 _).out).mono ?_); rintro e w7 ⟨rfl, hb7⟩; clear tok7 _t; have hz7 := hb7.size; (try simp only [World.size_alloc, World.size_setCell, World.size_drew, World.size_drewN'] at hz7); (try (have kq := cellAt hb7 (gS) (by go_size); have k7_gS_0 := kq 0; have k7_gS_1 := kq 1; have k7_gS_2 := kq 2; have k7_gS_3 := kq 3; clear kq; have f7_gS := frozAt hb7 (gS) (by go_size); simp [go_sem, *] at k7_gS_0 k7_gS_1 k7_gS_2 k7_gS_3 f7_gS)); (try have l7_gS : gS < w7.heap.size := by omega); (try (have kq := cellAt hb7 (gF) (by go_size); have k7_gF_0 := kq 0; have k7_gF_1 := kq 1; have k7_gF_2 := kq 2; have k7_gF_3 := kq 3; clear kq; have f7_gF := frozAt hb7 (gF) (by go_size); simp [go_sem, *] at k7_gF_0 k7_gF_1 k7_gF_2 k7_gF_3 f7_gF)); (try have l7_gF : gF < w7.heap.size := by omega); (try clear k3_gS_0 k3_gS_1 k3_gS_2 k3_gS_3 f3_gS); (try clear l3_gS); (try clear k3_gF_0 k3_gF_1 k3_gF_2 k3_gF_3 f3_gF); (try clear l3_gF); (try clear k4_gS_0 k4_gS_1 k4_gS_2 k4_gS_3 f4_gS); (try clear l4_gS); (try clear k4_gF_0 k4_gF_1 k4_gF_2 k4_gF_3 f4_gF); (try clear l4_gF); (try clear k5_gS_0 k5_gS_1 k5_gS_2 k5_gS_3 f5_gS); (try clear l5_gS); (try clear k5_gF_0 k5_gF_1 k5_gF_2 k5_gF_3 f5_gF); (try clear l5_gF); (try clear k6_gS_0 k6_gS_1 k6_gS_2 k6_gS_3 f6_gS); (try clear l6_gS); (try clear k6_gF_0 k6_gF_1 k6_gF_2 k6_gF_3 f6_gF); (try clear l6_gF)) | (have _t := tok8; go_at_call 25; (with_reducible refine ((T8 _).out).mono ?_); rintro e w8 ⟨rfl, hb8⟩; clear tok8 _t; have hz8 := hb8.size; (try simp only [World.size_alloc, World.size_setCell, World.size_drew, World.size_drewN'] at hz8); (try (have kq := cellAt hb8 (gS) (by go_size); have k8_gS_0 := kq 0; have k8_gS_1 := kq 1; have k8_gS_2 := kq 2; have k8_gS_3 := kq 3; clear kq; have f8_gS := frozAt hb8 (gS) (by go_size); simp [go_sem, *] at k8_gS_0 k8_gS_1 k8_gS_2 k8_gS_3 f8_gS)); (try have l8_gS : gS < w8.heap.size := by omega); (try (have kq := cellAt hb8 (gF) (by go_size); have k8_gF_0 := kq 0; have k8_gF_1 := kq 1; have k8_gF_2 := kq 2; have k8_gF_3 := kq 3; clear kq; have f8_gF := frozAt hb8 (gF) (by go_size); simp [go_sem, *] at k8_gF_0 k8_gF_1 k8_gF_2 k8_gF_3 f8_gF)); (try have l8_gF : gF < w8.heap.size := by omega); (try clear k4_gS_0 k4_gS_1 k4_gS_2 k4_gS_3 f4_gS); (try clear l4_gS); (try clear k4_gF_0 k4_gF_1 k4_gF_2 k4_gF_3 f4_gF); (try clear l4_gF); (try clear k5_gS_0 k5_gS_1 k5_gS_2 k5_gS_3 f5_gS); (try clear l5_gS); (try clear k5_gF_0 k5_gF_1 k5_gF_2 k5_gF_3 f5_gF); (try clear l5_gF); (try clear k6_gS_0 k6_gS_1 k6_gS_2 k6_gS_3 f6_gS); (try clear l6_gS); (try clear k6_gF_0 k6_gF_1 k6_gF_2 k6_gF_3 f6_gF); (try clear l6_gF); (try clear k7_gS_0 k7_gS_1 k7_gS_2 k7_gS_3 f7_gS); (try clear l7_gS); (try clear k7_gF_0 k7_gF_1 k7_gF_2 k7_gF_3 f7_gF); (try clear l7_gF)))
          go_roundw
          case rel => first | exact ⟨x + 1, by omega, by go_num, by repeat' first | (with_reducible first | apply zRf | assumption | apply zDn | apply zDr | apply zAl | apply zSt | refine zVi (by assumption) ?_ ?_) | go_size⟩ | ((repeat (with_reducible apply Exists.intro)); exact ⟨⟨x + 1, by omega, by go_num, by repeat' first | (with_reducible first | apply zRf | assumption | apply zDn | apply zDr | apply zAl | apply zSt | refine zVi (by assumption) ?_ ?_) | go_size⟩, rfl⟩)
          case measure => simp [intOf]; omega
        · have hx4 : x = 4 := by omega
          subst hx4
          iterate 60 (first | (exact FnCu_33 hB9 H_G_9.out H_C_9.out H_D_9.out H_R_9.out H_H_9.out H_X_9.out Fn.out Fr.out Fa.out) | go_values | go_skip | go_guarded | go_step | go_upon | go_back | skip)
end Go.Proofs.YtdcbpgpjiacomaaDoor
