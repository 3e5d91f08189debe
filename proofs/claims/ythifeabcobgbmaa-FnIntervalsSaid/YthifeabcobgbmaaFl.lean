/- FnIntervals from its last regions on. -/
import Derived.Test.YthifeabcobgbmaaFi
import Derived.Test.YthifeabcobgbmaaFk
namespace Go.Proofs.Ythifeabcobgbmaa
open Go.RowKit
set_option linter.unusedVariables false
set_option maxHeartbeats 0
set_option maxRecDepth 20000
set_option linter.unusedSimpArgs false

theorem FnIv_37 {n1 d1 n2 d2 n3 d3 n4 d4 S1 S2 S3 S4 M1 M2 M3 M4 C1 C2 C3 C4 X1 X2 X3 X4 : Int} {os om oc ox : Bool} {w W : World} {gI gK gS gM gC : Nat} {u0 u1 u2 u3 u4 u7 u8 u9 u10 u13 u14 u15 u18 u19 u20 u21 u22 u23 u24 u25 u26 u27 u30 u31 u32 u33 u34 u35 u36 u37 u38 u39 u40 u41 u42 u43 u44 u45 u46 u47 u48 u49 u50 u51 u52 u53 u54 u55 u56 u57 u58 u59 u60 u61 u62 u63 u64 u65 u66 u67 u68 u69 u70 u71 u72 u73 u74 u75 u76 u77 u78 u79 u80 u81 u82 u83 u84 u85 u86 u87 u88 u89 u90 u91 u92 u93 u94 u95 u96 u97 u98 u99 u100 u101 u102 u103 u104 u105 u106 u107 u108 u109 u110 u111 u112 u113 u114 u115 u116 u117 u118 u119 u120 u121 u122 u123 u124 u125 u126 u127 u128 u129 u130 u131 u132 u133 u134 u135 u136 u137 u138 u139 u140 u141 u142 u143 u144 u145 u146 u147 u148 u149 u150 u151 u152 u153 u154 u155 u156 u157 u158 u159 u160 u161 u162 u163 u164 u165 u166 u167 u168 u169 u170 u171 u172 u173 u174 u175 u176 u177 u178 u179 u180 u181 u182 u183 u184 u185 u186 u187 u188 u189 u190 u191 u192 u193 u194 u195 u196 u197 u198 u199 u200 u201 u202 u203 u204 u205 u206 u207 u208 u209 u210 u211 u212 u213 u214 u215 u216 u217 u218 u219 u220 u221 u222 u223 u224 u225 u226 u227 u228 u229 u230 u231 u232 u233 u234 u235 u236 u237 u238 u239 u240 u241 u242 u243 u244 u245 u246 u247 u248 u249 u250 u251 u252 u253 u254 u255 u256 u257 u258 u259 u260 u261 u262 u263 u264 u265 u266 u267 u268 u269 u270 u271 u272 u273 u274 u275 u276 u277 u278 u279 u280 u281 u282 u283 u284 u285 u286 u287 u288 u289 u290 u291 u292 u293 u294 u295 u296 u297 u298 u299 u300 u301 u302 u303 u304 u305 u306 u307 u308 u309 u310 u311 u312 u313 u314 u315 u316 u317 u318 u319 u320 u321 u322 u323 u324 u325 u326 u327 u328 u329 u330 u331 u332 u333 u334 u335 u336 u337 u338 u339 u340 u341 : Value}
    (hB : Below w.heap.size w W) (HI : W.heap[gI]? = some (.cells #[.int .i64 n1, .int .i64 d1, .int .i64 n2, .int .i64 d2] 26 (0, 0))) (HK : W.heap[gK]? = some (.cells #[.int .i64 n3, .int .i64 d3, .int .i64 n4, .int .i64 d4] 26 (0, 0))) (HSi : W.heap[gS]? = some (.cells #[.int .i64 S1, .int .i64 S2, .int .i64 S3, .int .i64 S4] 26 (0, 0))) (HMs : W.heap[gM]? = some (.cells #[.int .i64 M1, .int .i64 M2, .int .i64 M3, .int .i64 M4] 26 (0, 0))) (HCs : W.heap[gC]? = some (.cells #[.int .i64 C1, .int .i64 C2, .int .i64 C3, .int .i64 C4] 26 (0, 0)))
    (RX : Ret2 5 S1 S2 S3 S4 n3 d3 n4 d4 X1 X2 X3 X4 ox) (RY : Ret2 9 n3 d3 n4 d4 n1 d1 n2 d2 M1 M2 M3 M4 om)
    (Fc : (oc = true → qiB n1 d1 n2 d2 C1 C2 = true ∧ qiB n3 d3 n4 d4 C1 C2 = true ∧ qiB n1 d1 n2 d2 C3 C4 = true ∧ qiB n3 d3 n4 d4 C3 C4 = true))
    (Fb : (os = true → ox = true → qlB n1 d1 X1 X2 = false ∧ qlB X3 X4 n2 d2 = false))
    : Code.wp Try.prog (dropTo 37 (bodyOf Try.f3)) (bodyPost Try.prog Try.f3 fun e w' => e = .returned (.bool true) ∧ Below w.heap.size w w') { tmps := #[u0, u1, u2, u3, u4, .pointer (some ⟨gI, 0, none⟩), .pointer (some ⟨gK, 0, none⟩), u7, u8, u9, u10, .pointer (some ⟨gS, 0, none⟩), .bool os, u13, u14, u15, .bool om, .pointer (some ⟨gM, 0, none⟩), u18, u19, u20, u21, u22, u23, u24, u25, u26, u27, .bool oc, .pointer (some ⟨gC, 0, none⟩), u30, u31, u32, u33, u34, u35, u36, u37, u38, u39, u40, u41, u42, u43, u44, u45, u46, u47, u48, u49, u50, u51, u52, u53, u54, u55, u56, u57, u58, u59, u60, u61, u62, u63, u64, u65, u66, u67, u68, u69, u70, u71, u72, u73, u74, u75, u76, u77, u78, u79, u80, u81, u82, u83, u84, u85, u86, u87, u88, u89, u90, u91, u92, u93, u94, u95, u96, u97, u98, u99, u100, u101, u102, u103, u104, u105, u106, u107, u108, u109, u110, u111, u112, u113, u114, u115, u116, u117, u118, u119, u120, u121, u122, u123, u124, u125, u126, u127, u128, u129, u130, u131, u132, u133, u134, u135, u136, u137, u138, u139, u140, u141, u142, u143, u144, u145, u146, u147, u148, u149, u150, u151, u152, u153, u154, u155, u156, u157, u158, u159, u160, u161, u162, u163, u164, u165, u166, u167, u168, u169, u170, u171, u172, u173, u174, u175, u176, u177, u178, u179, u180, u181, u182, u183, u184, u185, u186, u187, u188, u189, u190, u191, u192, u193, u194, u195, u196, u197, u198, u199, u200, u201, u202, u203, u204, u205, u206, u207, u208, u209, u210, u211, u212, u213, u214, u215, u216, u217, u218, u219, u220, u221, u222, u223, u224, u225, u226, u227, u228, u229, u230, u231, u232, u233, u234, u235, u236, u237, u238, u239, u240, u241, u242, u243, u244, u245, u246, u247, u248, u249, u250, u251, u252, u253, u254, u255, u256, u257, u258, u259, u260, u261, u262, u263, u264, u265, u266, u267, u268, u269, u270, u271, u272, u273, u274, u275, u276, u277, u278, u279, u280, u281, u282, u283, u284, u285, u286, u287, u288, u289, u290, u291, u292, u293, u294, u295, u296, u297, u298, u299, u300, u301, u302, u303, u304, u305, u306, u307, u308, u309, u310, u311, u312, u313, u314, u315, u316, u317, u318, u319, u320, u321, u322, u323, u324, u325, u326, u327, u328, u329, u330, u331, u332, u333, u334, u335, u336, u337, u338, u339, u340, u341], defers := [] } W := by
  have TX := fun W : World => Lib.hid (RX W)
  have TY := fun W : World => Lib.hid (RY W)
  replace Fc := Lib.hid Fc
  replace Fb := Lib.hid Fb
  have tok51 : True := trivial
  have tok52 : True := trivial
  have tok53 : True := trivial
  have tok54 : True := trivial
  have tok56 : True := trivial
  have tok58 : True := trivial
  have tok59 : True := trivial
  have tok61 : True := trivial
  conv in dropTo _ _ => whnf
  dsimp only
  clear RX RY
  refine chk (fun W => Below w.heap.size w W ∧ W.heap[gI]? = some (.cells #[.int .i64 n1, .int .i64 d1, .int .i64 n2, .int .i64 d2] 26 (0, 0)) ∧ W.heap[gK]? = some (.cells #[.int .i64 n3, .int .i64 d3, .int .i64 n4, .int .i64 d4] 26 (0, 0)) ∧ W.heap[gS]? = some (.cells #[.int .i64 S1, .int .i64 S2, .int .i64 S3, .int .i64 S4] 26 (0, 0)) ∧ W.heap[gM]? = some (.cells #[.int .i64 M1, .int .i64 M2, .int .i64 M3, .int .i64 M4] 26 (0, 0)) ∧ W.heap[gC]? = some (.cells #[.int .i64 C1, .int .i64 C2, .int .i64 C3, .int .i64 C4] 26 (0, 0))) (by refine ⟨?_, ?_, ?_, ?_, ?_, ?_⟩ <;> (repeat' first | (with_reducible first | assumption | (apply Ne.symm; assumption) | apply Nat.le_refl | apply Nat.le_add_right | apply zL | apply zRf | apply Wx.box | apply Wx.box4 | apply zWa | apply Wx.drew | apply zWn | apply bx_drew | apply bx_drewN | apply bx_set3 | apply bx_set2 | apply bx_set4 | apply bx_set1) | ((with_reducible apply bx_new); (focus (go_size; done))) | (with_reducible first | apply zOl | apply zFa | apply zDn | apply zDr | apply zAl | apply zSt | refine zVi (by assumption) ?_ ?_) | go_size | omega)) ?_
  rintro w31 ⟨hB31, H_I_31, H_K_31, H_Si_31, H_Ms_31, H_Cs_31⟩
  obtain ⟨k_I_31_0, k_I_31_1, k_I_31_2, k_I_31_3, f_I_31, l_I_31⟩ := bk4 H_I_31
  replace H_I_31 := Lib.hid H_I_31
  obtain ⟨k_K_31_0, k_K_31_1, k_K_31_2, k_K_31_3, f_K_31, l_K_31⟩ := bk4 H_K_31
  replace H_K_31 := Lib.hid H_K_31
  obtain ⟨k_Si_31_0, k_Si_31_1, k_Si_31_2, k_Si_31_3, f_Si_31, l_Si_31⟩ := bk4 H_Si_31
  replace H_Si_31 := Lib.hid H_Si_31
  obtain ⟨k_Ms_31_0, k_Ms_31_1, k_Ms_31_2, k_Ms_31_3, f_Ms_31, l_Ms_31⟩ := bk4 H_Ms_31
  replace H_Ms_31 := Lib.hid H_Ms_31
  obtain ⟨k_Cs_31_0, k_Cs_31_1, k_Cs_31_2, k_Cs_31_3, f_Cs_31, l_Cs_31⟩ := bk4 H_Cs_31
  replace H_Cs_31 := Lib.hid H_Cs_31
  clear hB HI HK HSi HMs HCs
  skip
  go_upto_region 37 with fail
  have TC1 := fun W : World => Lib.hid (qIn_any n1 d1 n2 d2 C1 C2 W)
  have TC2 := fun W : World => Lib.hid (qIn_any n3 d3 n4 d4 C1 C2 W)
  have TC3 := fun W : World => Lib.hid (qIn_any n1 d1 n2 d2 C3 C4 W)
  have TC4 := fun W : World => Lib.hid (qIn_any n3 d3 n4 d4 C3 C4 W)
  go_cut [305] (fun sq wx => sq = .bool false ∧ Below w31.heap.size w31 wx)
  case first =>
    as_aux_lemma =>
      have hh := Fc.out
      clear TX TY Fc Fb
      cases oc
      · go_wp2_with fail
        go_meet
        exact ⟨rfl, by repeat' first | (with_reducible first | apply zRf | assumption | apply zDn | apply zDr | apply zAl | apply zSt | refine zVi (by assumption) ?_ ?_) | go_size⟩
      · obtain ⟨q1, q2, q3, q4⟩ := hh rfl
        rw [q1] at TC1
        rw [q2] at TC2
        rw [q3] at TC3
        rw [q4] at TC4
        clear hh q1 q2 q3 q4
        go_wp2_with (first | (have _t := tok51; go_at_call 19; (with_reducible refine ((TC1 _).out).mono ?_); rintro e w51 ⟨rfl, hb51⟩; clear tok51 _t; have hz51 := hb51.size; (try simp only [World.size_alloc, World.size_setCell, World.size_drew, World.size_drewN'] at hz51); (try (have kq := cellAt hb51 (gI) (by go_size); have k51_gI_0 := kq 0; have k51_gI_1 := kq 1; have k51_gI_2 := kq 2; have k51_gI_3 := kq 3; clear kq; have f51_gI := frozAt hb51 (gI) (by go_size); simp [go_sem, *] at k51_gI_0 k51_gI_1 k51_gI_2 k51_gI_3 f51_gI)); (try have l51_gI : gI < w51.heap.size := by omega); (try (have kq := cellAt hb51 (gK) (by go_size); have k51_gK_0 := kq 0; have k51_gK_1 := kq 1; have k51_gK_2 := kq 2; have k51_gK_3 := kq 3; clear kq; have f51_gK := frozAt hb51 (gK) (by go_size); simp [go_sem, *] at k51_gK_0 k51_gK_1 k51_gK_2 k51_gK_3 f51_gK)); (try have l51_gK : gK < w51.heap.size := by omega); (try (have kq := cellAt hb51 (gC) (by go_size); have k51_gC_0 := kq 0; have k51_gC_1 := kq 1; have k51_gC_2 := kq 2; have k51_gC_3 := kq 3; clear kq; have f51_gC := frozAt hb51 (gC) (by go_size); simp [go_sem, *] at k51_gC_0 k51_gC_1 k51_gC_2 k51_gC_3 f51_gC)); (try have l51_gC : gC < w51.heap.size := by omega); (try clear k47_gI_0 k47_gI_1 k47_gI_2 k47_gI_3 f47_gI); (try clear l47_gI); (try clear k47_gK_0 k47_gK_1 k47_gK_2 k47_gK_3 f47_gK); (try clear l47_gK); (try clear k47_gC_0 k47_gC_1 k47_gC_2 k47_gC_3 f47_gC); (try clear l47_gC); (try clear k48_gI_0 k48_gI_1 k48_gI_2 k48_gI_3 f48_gI); (try clear l48_gI); (try clear k48_gK_0 k48_gK_1 k48_gK_2 k48_gK_3 f48_gK); (try clear l48_gK); (try clear k48_gC_0 k48_gC_1 k48_gC_2 k48_gC_3 f48_gC); (try clear l48_gC); (try clear k49_gI_0 k49_gI_1 k49_gI_2 k49_gI_3 f49_gI); (try clear l49_gI); (try clear k49_gK_0 k49_gK_1 k49_gK_2 k49_gK_3 f49_gK); (try clear l49_gK); (try clear k49_gC_0 k49_gC_1 k49_gC_2 k49_gC_3 f49_gC); (try clear l49_gC); (try clear k50_gI_0 k50_gI_1 k50_gI_2 k50_gI_3 f50_gI); (try clear l50_gI); (try clear k50_gK_0 k50_gK_1 k50_gK_2 k50_gK_3 f50_gK); (try clear l50_gK); (try clear k50_gC_0 k50_gC_1 k50_gC_2 k50_gC_3 f50_gC); (try clear l50_gC)) | (have _t := tok52; go_at_call 19; (with_reducible refine ((TC2 _).out).mono ?_); rintro e w52 ⟨rfl, hb52⟩; clear tok52 _t; have hz52 := hb52.size; (try simp only [World.size_alloc, World.size_setCell, World.size_drew, World.size_drewN'] at hz52); (try (have kq := cellAt hb52 (gI) (by go_size); have k52_gI_0 := kq 0; have k52_gI_1 := kq 1; have k52_gI_2 := kq 2; have k52_gI_3 := kq 3; clear kq; have f52_gI := frozAt hb52 (gI) (by go_size); simp [go_sem, *] at k52_gI_0 k52_gI_1 k52_gI_2 k52_gI_3 f52_gI)); (try have l52_gI : gI < w52.heap.size := by omega); (try (have kq := cellAt hb52 (gK) (by go_size); have k52_gK_0 := kq 0; have k52_gK_1 := kq 1; have k52_gK_2 := kq 2; have k52_gK_3 := kq 3; clear kq; have f52_gK := frozAt hb52 (gK) (by go_size); simp [go_sem, *] at k52_gK_0 k52_gK_1 k52_gK_2 k52_gK_3 f52_gK)); (try have l52_gK : gK < w52.heap.size := by omega); (try (have kq := cellAt hb52 (gC) (by go_size); have k52_gC_0 := kq 0; have k52_gC_1 := kq 1; have k52_gC_2 := kq 2; have k52_gC_3 := kq 3; clear kq; have f52_gC := frozAt hb52 (gC) (by go_size); simp [go_sem, *] at k52_gC_0 k52_gC_1 k52_gC_2 k52_gC_3 f52_gC)); (try have l52_gC : gC < w52.heap.size := by omega); (try clear k48_gI_0 k48_gI_1 k48_gI_2 k48_gI_3 f48_gI); (try clear l48_gI); (try clear k48_gK_0 k48_gK_1 k48_gK_2 k48_gK_3 f48_gK); (try clear l48_gK); (try clear k48_gC_0 k48_gC_1 k48_gC_2 k48_gC_3 f48_gC); (try clear l48_gC); (try clear k49_gI_0 k49_gI_1 k49_gI_2 k49_gI_3 f49_gI); (try clear l49_gI); (try clear k49_gK_0 k49_gK_1 k49_gK_2 k49_gK_3 f49_gK); (try clear l49_gK); (try clear k49_gC_0 k49_gC_1 k49_gC_2 k49_gC_3 f49_gC); (try clear l49_gC); (try clear k50_gI_0 k50_gI_1 k50_gI_2 k50_gI_3 f50_gI); (try clear l50_gI); (try clear k50_gK_0 k50_gK_1 k50_gK_2 k50_gK_3 f50_gK); (try clear l50_gK); (try clear k50_gC_0 k50_gC_1 k50_gC_2 k50_gC_3 f50_gC); (try clear l50_gC); (try clear k51_gI_0 k51_gI_1 k51_gI_2 k51_gI_3 f51_gI); (try clear l51_gI); (try clear k51_gK_0 k51_gK_1 k51_gK_2 k51_gK_3 f51_gK); (try clear l51_gK); (try clear k51_gC_0 k51_gC_1 k51_gC_2 k51_gC_3 f51_gC); (try clear l51_gC)) | (have _t := tok53; go_at_call 19; (with_reducible refine ((TC3 _).out).mono ?_); rintro e w53 ⟨rfl, hb53⟩; clear tok53 _t; have hz53 := hb53.size; (try simp only [World.size_alloc, World.size_setCell, World.size_drew, World.size_drewN'] at hz53); (try (have kq := cellAt hb53 (gI) (by go_size); have k53_gI_0 := kq 0; have k53_gI_1 := kq 1; have k53_gI_2 := kq 2; have k53_gI_3 := kq 3; clear kq; have f53_gI := frozAt hb53 (gI) (by go_size); simp [go_sem, *] at k53_gI_0 k53_gI_1 k53_gI_2 k53_gI_3 f53_gI)); (try have l53_gI : gI < w53.heap.size := by omega); (try (have kq := cellAt hb53 (gK) (by go_size); have k53_gK_0 := kq 0; have k53_gK_1 := kq 1; have k53_gK_2 := kq 2; have k53_gK_3 := kq 3; clear kq; have f53_gK := frozAt hb53 (gK) (by go_size); simp [go_sem, *] at k53_gK_0 k53_gK_1 k53_gK_2 k53_gK_3 f53_gK)); (try have l53_gK : gK < w53.heap.size := by omega); (try (have kq := cellAt hb53 (gC) (by go_size); have k53_gC_0 := kq 0; have k53_gC_1 := kq 1; have k53_gC_2 := kq 2; have k53_gC_3 := kq 3; clear kq; have f53_gC := frozAt hb53 (gC) (by go_size); simp [go_sem, *] at k53_gC_0 k53_gC_1 k53_gC_2 k53_gC_3 f53_gC)); (try have l53_gC : gC < w53.heap.size := by omega); (try clear k49_gI_0 k49_gI_1 k49_gI_2 k49_gI_3 f49_gI); (try clear l49_gI); (try clear k49_gK_0 k49_gK_1 k49_gK_2 k49_gK_3 f49_gK); (try clear l49_gK); (try clear k49_gC_0 k49_gC_1 k49_gC_2 k49_gC_3 f49_gC); (try clear l49_gC); (try clear k50_gI_0 k50_gI_1 k50_gI_2 k50_gI_3 f50_gI); (try clear l50_gI); (try clear k50_gK_0 k50_gK_1 k50_gK_2 k50_gK_3 f50_gK); (try clear l50_gK); (try clear k50_gC_0 k50_gC_1 k50_gC_2 k50_gC_3 f50_gC); (try clear l50_gC); (try clear k51_gI_0 k51_gI_1 k51_gI_2 k51_gI_3 f51_gI); (try clear l51_gI); (try clear k51_gK_0 k51_gK_1 k51_gK_2 k51_gK_3 f51_gK); (try clear l51_gK); (try clear k51_gC_0 k51_gC_1 k51_gC_2 k51_gC_3 f51_gC); (try clear l51_gC); (try clear k52_gI_0 k52_gI_1 k52_gI_2 k52_gI_3 f52_gI); (try clear l52_gI); (try clear k52_gK_0 k52_gK_1 k52_gK_2 k52_gK_3 f52_gK); (try clear l52_gK); (try clear k52_gC_0 k52_gC_1 k52_gC_2 k52_gC_3 f52_gC); (try clear l52_gC)) | (have _t := tok54; go_at_call 19; (with_reducible refine ((TC4 _).out).mono ?_); rintro e w54 ⟨rfl, hb54⟩; clear tok54 _t; have hz54 := hb54.size; (try simp only [World.size_alloc, World.size_setCell, World.size_drew, World.size_drewN'] at hz54); (try (have kq := cellAt hb54 (gI) (by go_size); have k54_gI_0 := kq 0; have k54_gI_1 := kq 1; have k54_gI_2 := kq 2; have k54_gI_3 := kq 3; clear kq; have f54_gI := frozAt hb54 (gI) (by go_size); simp [go_sem, *] at k54_gI_0 k54_gI_1 k54_gI_2 k54_gI_3 f54_gI)); (try have l54_gI : gI < w54.heap.size := by omega); (try (have kq := cellAt hb54 (gK) (by go_size); have k54_gK_0 := kq 0; have k54_gK_1 := kq 1; have k54_gK_2 := kq 2; have k54_gK_3 := kq 3; clear kq; have f54_gK := frozAt hb54 (gK) (by go_size); simp [go_sem, *] at k54_gK_0 k54_gK_1 k54_gK_2 k54_gK_3 f54_gK)); (try have l54_gK : gK < w54.heap.size := by omega); (try (have kq := cellAt hb54 (gC) (by go_size); have k54_gC_0 := kq 0; have k54_gC_1 := kq 1; have k54_gC_2 := kq 2; have k54_gC_3 := kq 3; clear kq; have f54_gC := frozAt hb54 (gC) (by go_size); simp [go_sem, *] at k54_gC_0 k54_gC_1 k54_gC_2 k54_gC_3 f54_gC)); (try have l54_gC : gC < w54.heap.size := by omega); (try clear k50_gI_0 k50_gI_1 k50_gI_2 k50_gI_3 f50_gI); (try clear l50_gI); (try clear k50_gK_0 k50_gK_1 k50_gK_2 k50_gK_3 f50_gK); (try clear l50_gK); (try clear k50_gC_0 k50_gC_1 k50_gC_2 k50_gC_3 f50_gC); (try clear l50_gC); (try clear k51_gI_0 k51_gI_1 k51_gI_2 k51_gI_3 f51_gI); (try clear l51_gI); (try clear k51_gK_0 k51_gK_1 k51_gK_2 k51_gK_3 f51_gK); (try clear l51_gK); (try clear k51_gC_0 k51_gC_1 k51_gC_2 k51_gC_3 f51_gC); (try clear l51_gC); (try clear k52_gI_0 k52_gI_1 k52_gI_2 k52_gI_3 f52_gI); (try clear l52_gI); (try clear k52_gK_0 k52_gK_1 k52_gK_2 k52_gK_3 f52_gK); (try clear l52_gK); (try clear k52_gC_0 k52_gC_1 k52_gC_2 k52_gC_3 f52_gC); (try clear l52_gC); (try clear k53_gI_0 k53_gI_1 k53_gI_2 k53_gI_3 f53_gI); (try clear l53_gI); (try clear k53_gK_0 k53_gK_1 k53_gK_2 k53_gK_3 f53_gK); (try clear l53_gK); (try clear k53_gC_0 k53_gC_1 k53_gC_2 k53_gC_3 f53_gC); (try clear l53_gC)))
        go_meet
        exact ⟨rfl, by repeat' first | (with_reducible first | apply zRf | assumption | apply zDn | apply zDr | apply zAl | apply zSt | refine zVi (by assumption) ?_ ?_) | go_size⟩
  case rest =>
    obtain ⟨rfl, hb80⟩ := hcut
    generalize wc = w80 at *
    clear TC1 TC2 TC3 TC4 Fc
    clear k_Cs_31_0
    clear k_Cs_31_1
    clear k_Cs_31_2
    clear k_Cs_31_3
    clear f_Cs_31 H_Cs_31
    have H_I_80 := (hb80.block (gI) (blk_lt' H_I_31.out)).trans H_I_31.out
    clear k_I_31_0 k_I_31_1 k_I_31_2 k_I_31_3 f_I_31 H_I_31
    obtain ⟨k_I_80_0, k_I_80_1, k_I_80_2, k_I_80_3, f_I_80, l_I_80⟩ := bk4 H_I_80
    replace H_I_80 := Lib.hid H_I_80
    have H_K_80 := (hb80.block (gK) (blk_lt' H_K_31.out)).trans H_K_31.out
    clear k_K_31_0 k_K_31_1 k_K_31_2 k_K_31_3 f_K_31 H_K_31
    obtain ⟨k_K_80_0, k_K_80_1, k_K_80_2, k_K_80_3, f_K_80, l_K_80⟩ := bk4 H_K_80
    replace H_K_80 := Lib.hid H_K_80
    have H_Si_80 := (hb80.block (gS) (blk_lt' H_Si_31.out)).trans H_Si_31.out
    clear k_Si_31_0 k_Si_31_1 k_Si_31_2 k_Si_31_3 f_Si_31 H_Si_31
    obtain ⟨k_Si_80_0, k_Si_80_1, k_Si_80_2, k_Si_80_3, f_Si_80, l_Si_80⟩ := bk4 H_Si_80
    replace H_Si_80 := Lib.hid H_Si_80
    have H_Ms_80 := (hb80.block (gM) (blk_lt' H_Ms_31.out)).trans H_Ms_31.out
    clear k_Ms_31_0 k_Ms_31_1 k_Ms_31_2 k_Ms_31_3 f_Ms_31 H_Ms_31
    obtain ⟨k_Ms_80_0, k_Ms_80_1, k_Ms_80_2, k_Ms_80_3, f_Ms_80, l_Ms_80⟩ := bk4 H_Ms_80
    replace H_Ms_80 := Lib.hid H_Ms_80
    have hB80 : Below w.heap.size w w80 := below_via hb80 (by assumption) (by first | exact hB31.size | go_size)
    clear hb80
    go_upto_region 39 with fail
    cases os
    · have _t := trivial
      have szp := hB80.size
      go_upto_region 43 with fail
      cases om
      · as_aux_lemma =>
          go_wp2_with fail
          go_ret
          refine ⟨rfl, ?_⟩
          repeat' first | (with_reducible first | apply zRf | assumption | apply zDn | apply zDr | apply zAl | apply zSt | refine zVi (by assumption) ?_ ?_) | go_size
      · as_aux_lemma =>
          have EM := fun W => neqIv_same M1 M2 M3 M4 W
          go_wp2_with (first | (have _t := tok61; go_at_call 9; (with_reducible refine ((TY _).out).mono ?_); rintro e w61 ⟨rfl, hb61⟩; clear tok61 _t; have hz61 := hb61.size; (try simp only [World.size_alloc, World.size_setCell, World.size_drew, World.size_drewN'] at hz61); (try (have kq := cellAt hb61 (gM) (by go_size); have k61_gM_0 := kq 0; have k61_gM_1 := kq 1; have k61_gM_2 := kq 2; have k61_gM_3 := kq 3; clear kq; have f61_gM := frozAt hb61 (gM) (by go_size); simp [go_sem, *] at k61_gM_0 k61_gM_1 k61_gM_2 k61_gM_3 f61_gM)); (try have l61_gM : gM < w61.heap.size := by omega); (try clear k57_gM_0 k57_gM_1 k57_gM_2 k57_gM_3 f57_gM); (try clear l57_gM); (try clear k58_gM_0 k58_gM_1 k58_gM_2 k58_gM_3 f58_gM); (try clear l58_gM); (try clear k59_gM_0 k59_gM_1 k59_gM_2 k59_gM_3 f59_gM); (try clear l59_gM); (try clear k60_gM_0 k60_gM_1 k60_gM_2 k60_gM_3 f60_gM); (try clear l60_gM)))
          go_ret
          refine ⟨rfl, ?_⟩
          repeat' first | (with_reducible first | apply zRf | assumption | apply zDn | apply zDr | apply zAl | apply zSt | refine zVi (by assumption) ?_ ?_) | go_size
    · go_upto_region 41 with (first | (have _t := tok56; go_at_call 5; (with_reducible refine ((TX _).out).mono ?_); rintro e w56 ⟨rfl, hb56⟩; clear tok56 _t; have hz56 := hb56.size; (try simp only [World.size_alloc, World.size_setCell, World.size_drew, World.size_drewN'] at hz56)))
      have H_I_56 := (hb56.block (gI) (blk_lt' H_I_80.out)).trans H_I_80.out
      clear k_I_80_0 k_I_80_1 k_I_80_2 k_I_80_3 f_I_80 H_I_80
      obtain ⟨k_I_56_0, k_I_56_1, k_I_56_2, k_I_56_3, f_I_56, l_I_56⟩ := bk4 H_I_56
      replace H_I_56 := Lib.hid H_I_56
      have H_K_56 := (hb56.block (gK) (blk_lt' H_K_80.out)).trans H_K_80.out
      clear k_K_80_0 k_K_80_1 k_K_80_2 k_K_80_3 f_K_80 H_K_80
      obtain ⟨k_K_56_0, k_K_56_1, k_K_56_2, k_K_56_3, f_K_56, l_K_56⟩ := bk4 H_K_56
      replace H_K_56 := Lib.hid H_K_56
      have H_Si_56 := (hb56.block (gS) (blk_lt' H_Si_80.out)).trans H_Si_80.out
      clear k_Si_80_0 k_Si_80_1 k_Si_80_2 k_Si_80_3 f_Si_80 H_Si_80
      obtain ⟨k_Si_56_0, k_Si_56_1, k_Si_56_2, k_Si_56_3, f_Si_56, l_Si_56⟩ := bk4 H_Si_56
      replace H_Si_56 := Lib.hid H_Si_56
      have H_Ms_56 := (hb56.block (gM) (blk_lt' H_Ms_80.out)).trans H_Ms_80.out
      clear k_Ms_80_0 k_Ms_80_1 k_Ms_80_2 k_Ms_80_3 f_Ms_80 H_Ms_80
      obtain ⟨k_Ms_56_0, k_Ms_56_1, k_Ms_56_2, k_Ms_56_3, f_Ms_56, l_Ms_56⟩ := bk4 H_Ms_56
      replace H_Ms_56 := Lib.hid H_Ms_56
      have hB56 : Below w.heap.size w w56 := below_via hb56 (by assumption) (by first | exact hB80.size | go_size)
      clear hb56 TX
      have sz1 := hB56.size
      replace H_I_56 := H_I_56.out
      replace H_K_56 := H_K_56.out
      replace H_Si_56 := H_Si_56.out
      replace H_Ms_56 := H_Ms_56.out
      refine chk (fun W => Below w.heap.size w W ∧ W.heap[gI]? = some (.cells #[.int .i64 n1, .int .i64 d1, .int .i64 n2, .int .i64 d2] 26 (0, 0)) ∧ W.heap[gK]? = some (.cells #[.int .i64 n3, .int .i64 d3, .int .i64 n4, .int .i64 d4] 26 (0, 0)) ∧ W.heap[gS]? = some (.cells #[.int .i64 S1, .int .i64 S2, .int .i64 S3, .int .i64 S4] 26 (0, 0)) ∧ W.heap[gM]? = some (.cells #[.int .i64 M1, .int .i64 M2, .int .i64 M3, .int .i64 M4] 26 (0, 0)) ∧ W.heap[w56.heap.size]? = some (.cells #[.int .i64 X1, .int .i64 X2, .int .i64 X3, .int .i64 X4] 26 (0, 0))) (by refine ⟨?_, ?_, ?_, ?_, ?_, ?_⟩ <;> (repeat' first | (with_reducible first | assumption | (apply Ne.symm; assumption) | apply Nat.le_refl | apply Nat.le_add_right | apply zL | apply zRf | apply Wx.box | apply Wx.box4 | apply zWa | apply Wx.drew | apply zWn | apply bx_drew | apply bx_drewN | apply bx_set3 | apply bx_set2 | apply bx_set4 | apply bx_set1) | ((with_reducible apply bx_new); (focus (go_size; done))) | (with_reducible first | apply zOl | apply zFa | apply zDn | apply zDr | apply zAl | apply zSt | refine zVi (by assumption) ?_ ?_) | go_size | omega)) ?_
      clear k_I_56_0 k_I_56_1 k_I_56_2 k_I_56_3 f_I_56 H_I_56
      clear k_K_56_0 k_K_56_1 k_K_56_2 k_K_56_3 f_K_56 H_K_56
      clear k_Si_56_0 k_Si_56_1 k_Si_56_2 k_Si_56_3 f_Si_56 H_Si_56
      clear k_Ms_56_0 k_Ms_56_1 k_Ms_56_2 k_Ms_56_3 f_Ms_56 H_Ms_56
      clear hB56
      rintro w82 ⟨hB82, H_I_82, H_K_82, H_Si_82, H_Ms_82, H_Xb_82⟩
      obtain ⟨k_I_82_0, k_I_82_1, k_I_82_2, k_I_82_3, f_I_82, l_I_82⟩ := bk4 H_I_82
      replace H_I_82 := Lib.hid H_I_82
      obtain ⟨k_K_82_0, k_K_82_1, k_K_82_2, k_K_82_3, f_K_82, l_K_82⟩ := bk4 H_K_82
      replace H_K_82 := Lib.hid H_K_82
      obtain ⟨k_Si_82_0, k_Si_82_1, k_Si_82_2, k_Si_82_3, f_Si_82, l_Si_82⟩ := bk4 H_Si_82
      replace H_Si_82 := Lib.hid H_Si_82
      obtain ⟨k_Ms_82_0, k_Ms_82_1, k_Ms_82_2, k_Ms_82_3, f_Ms_82, l_Ms_82⟩ := bk4 H_Ms_82
      replace H_Ms_82 := Lib.hid H_Ms_82
      obtain ⟨k_Xb_82_0, k_Xb_82_1, k_Xb_82_2, k_Xb_82_3, f_Xb_82, l_Xb_82⟩ := bk4 H_Xb_82
      replace H_Xb_82 := Lib.hid H_Xb_82
      have TX1 := fun W : World => Lib.hid (qLess_any n1 d1 X1 X2 W)
      have TX2 := fun W : World => Lib.hid (qLess_any X3 X4 n2 d2 W)
      go_cut [327] (fun sq wx => sq = .bool false ∧ Below w82.heap.size w82 wx)
      case first =>
        as_aux_lemma =>
          have hh := Fb.out
          clear TY Fb
          cases ox
          · go_wp2_with fail
            go_meet
            exact ⟨rfl, by repeat' first | (with_reducible first | apply zRf | assumption | apply zDn | apply zDr | apply zAl | apply zSt | refine zVi (by assumption) ?_ ?_) | go_size⟩
          · obtain ⟨q1, q2⟩ := hh (by simp) (by simp)
            rw [q1] at TX1
            rw [q2] at TX2
            clear hh q1 q2
            go_wp2_with (first | (have _t := tok58; go_at_call 22; (with_reducible refine ((TX1 _).out).mono ?_); rintro e w58 ⟨rfl, hb58⟩; clear tok58 _t; have hz58 := hb58.size; (try simp only [World.size_alloc, World.size_setCell, World.size_drew, World.size_drewN'] at hz58); (try (have kq := cellAt hb58 (gI) (by go_size); have k58_gI_0 := kq 0; have k58_gI_1 := kq 1; have k58_gI_2 := kq 2; have k58_gI_3 := kq 3; clear kq; have f58_gI := frozAt hb58 (gI) (by go_size); simp [go_sem, *] at k58_gI_0 k58_gI_1 k58_gI_2 k58_gI_3 f58_gI)); (try have l58_gI : gI < w58.heap.size := by omega); (try (have kq := cellAt hb58 (w56.heap.size) (by go_size); have k58_w56_0_0 := kq 0; have k58_w56_0_1 := kq 1; have k58_w56_0_2 := kq 2; have k58_w56_0_3 := kq 3; clear kq; have f58_w56_0 := frozAt hb58 (w56.heap.size) (by go_size); simp [go_sem, *] at k58_w56_0_0 k58_w56_0_1 k58_w56_0_2 k58_w56_0_3 f58_w56_0)); (try have l58_w56_0 : w56.heap.size < w58.heap.size := by omega); (try clear k54_gI_0 k54_gI_1 k54_gI_2 k54_gI_3 f54_gI); (try clear l54_gI); (try clear k55_gI_0 k55_gI_1 k55_gI_2 k55_gI_3 f55_gI); (try clear l55_gI); (try clear k56_gI_0 k56_gI_1 k56_gI_2 k56_gI_3 f56_gI); (try clear l56_gI); (try clear k57_gI_0 k57_gI_1 k57_gI_2 k57_gI_3 f57_gI); (try clear l57_gI); (try clear k57_w56_0_0 k57_w56_0_1 k57_w56_0_2 k57_w56_0_3 f57_w56_0); (try clear l57_w56_0)) | (have _t := tok59; go_at_call 22; (with_reducible refine ((TX2 _).out).mono ?_); rintro e w59 ⟨rfl, hb59⟩; clear tok59 _t; have hz59 := hb59.size; (try simp only [World.size_alloc, World.size_setCell, World.size_drew, World.size_drewN'] at hz59); (try (have kq := cellAt hb59 (gI) (by go_size); have k59_gI_0 := kq 0; have k59_gI_1 := kq 1; have k59_gI_2 := kq 2; have k59_gI_3 := kq 3; clear kq; have f59_gI := frozAt hb59 (gI) (by go_size); simp [go_sem, *] at k59_gI_0 k59_gI_1 k59_gI_2 k59_gI_3 f59_gI)); (try have l59_gI : gI < w59.heap.size := by omega); (try (have kq := cellAt hb59 (w56.heap.size) (by go_size); have k59_w56_0_0 := kq 0; have k59_w56_0_1 := kq 1; have k59_w56_0_2 := kq 2; have k59_w56_0_3 := kq 3; clear kq; have f59_w56_0 := frozAt hb59 (w56.heap.size) (by go_size); simp [go_sem, *] at k59_w56_0_0 k59_w56_0_1 k59_w56_0_2 k59_w56_0_3 f59_w56_0)); (try have l59_w56_0 : w56.heap.size < w59.heap.size := by omega); (try clear k55_gI_0 k55_gI_1 k55_gI_2 k55_gI_3 f55_gI); (try clear l55_gI); (try clear k56_gI_0 k56_gI_1 k56_gI_2 k56_gI_3 f56_gI); (try clear l56_gI); (try clear k57_gI_0 k57_gI_1 k57_gI_2 k57_gI_3 f57_gI); (try clear l57_gI); (try clear k57_w56_0_0 k57_w56_0_1 k57_w56_0_2 k57_w56_0_3 f57_w56_0); (try clear l57_w56_0); (try clear k58_gI_0 k58_gI_1 k58_gI_2 k58_gI_3 f58_gI); (try clear l58_gI); (try clear k58_w56_0_0 k58_w56_0_1 k58_w56_0_2 k58_w56_0_3 f58_w56_0); (try clear l58_w56_0)))
            go_meet
            exact ⟨rfl, by repeat' first | (with_reducible first | apply zRf | assumption | apply zDn | apply zDr | apply zAl | apply zSt | refine zVi (by assumption) ?_ ?_) | go_size⟩
      case rest =>
        obtain ⟨rfl, hb84⟩ := hcut
        generalize wc = w84 at *
        clear TX1 TX2 Fb
        have H_I_84 := (hb84.block (gI) (blk_lt' H_I_82.out)).trans H_I_82.out
        clear k_I_82_0 k_I_82_1 k_I_82_2 k_I_82_3 f_I_82 H_I_82
        obtain ⟨k_I_84_0, k_I_84_1, k_I_84_2, k_I_84_3, f_I_84, l_I_84⟩ := bk4 H_I_84
        replace H_I_84 := Lib.hid H_I_84
        have H_K_84 := (hb84.block (gK) (blk_lt' H_K_82.out)).trans H_K_82.out
        clear k_K_82_0 k_K_82_1 k_K_82_2 k_K_82_3 f_K_82 H_K_82
        obtain ⟨k_K_84_0, k_K_84_1, k_K_84_2, k_K_84_3, f_K_84, l_K_84⟩ := bk4 H_K_84
        replace H_K_84 := Lib.hid H_K_84
        have H_Si_84 := (hb84.block (gS) (blk_lt' H_Si_82.out)).trans H_Si_82.out
        clear k_Si_82_0 k_Si_82_1 k_Si_82_2 k_Si_82_3 f_Si_82 H_Si_82
        obtain ⟨k_Si_84_0, k_Si_84_1, k_Si_84_2, k_Si_84_3, f_Si_84, l_Si_84⟩ := bk4 H_Si_84
        replace H_Si_84 := Lib.hid H_Si_84
        have H_Ms_84 := (hb84.block (gM) (blk_lt' H_Ms_82.out)).trans H_Ms_82.out
        clear k_Ms_82_0 k_Ms_82_1 k_Ms_82_2 k_Ms_82_3 f_Ms_82 H_Ms_82
        obtain ⟨k_Ms_84_0, k_Ms_84_1, k_Ms_84_2, k_Ms_84_3, f_Ms_84, l_Ms_84⟩ := bk4 H_Ms_84
        replace H_Ms_84 := Lib.hid H_Ms_84
        have H_Xb_84 := (hb84.block (w56.heap.size) (blk_lt' H_Xb_82.out)).trans H_Xb_82.out
        clear k_Xb_82_0 k_Xb_82_1 k_Xb_82_2 k_Xb_82_3 f_Xb_82 H_Xb_82
        obtain ⟨k_Xb_84_0, k_Xb_84_1, k_Xb_84_2, k_Xb_84_3, f_Xb_84, l_Xb_84⟩ := bk4 H_Xb_84
        replace H_Xb_84 := Lib.hid H_Xb_84
        have hB84 : Below w.heap.size w w84 := below_via hb84 (by assumption) (by first | exact hB82.size | go_size)
        clear hb84
        have szp := hB84.size
        go_upto_region 43 with fail
        cases om
        · as_aux_lemma =>
            go_wp2_with fail
            go_ret
            refine ⟨rfl, ?_⟩
            repeat' first | (with_reducible first | apply zRf | assumption | apply zDn | apply zDr | apply zAl | apply zSt | refine zVi (by assumption) ?_ ?_) | go_size
        · as_aux_lemma =>
            have EM := fun W => neqIv_same M1 M2 M3 M4 W
            go_wp2_with (first | (have _t := tok61; go_at_call 9; (with_reducible refine ((TY _).out).mono ?_); rintro e w61 ⟨rfl, hb61⟩; clear tok61 _t; have hz61 := hb61.size; (try simp only [World.size_alloc, World.size_setCell, World.size_drew, World.size_drewN'] at hz61); (try (have kq := cellAt hb61 (gM) (by go_size); have k61_gM_0 := kq 0; have k61_gM_1 := kq 1; have k61_gM_2 := kq 2; have k61_gM_3 := kq 3; clear kq; have f61_gM := frozAt hb61 (gM) (by go_size); simp [go_sem, *] at k61_gM_0 k61_gM_1 k61_gM_2 k61_gM_3 f61_gM)); (try have l61_gM : gM < w61.heap.size := by omega); (try clear k57_gM_0 k57_gM_1 k57_gM_2 k57_gM_3 f57_gM); (try clear l57_gM); (try clear k58_gM_0 k58_gM_1 k58_gM_2 k58_gM_3 f58_gM); (try clear l58_gM); (try clear k59_gM_0 k59_gM_1 k59_gM_2 k59_gM_3 f59_gM); (try clear l59_gM); (try clear k60_gM_0 k60_gM_1 k60_gM_2 k60_gM_3 f60_gM); (try clear l60_gM)))
            go_ret
            refine ⟨rfl, ?_⟩
            repeat' first | (with_reducible first | apply zRf | assumption | apply zDn | apply zDr | apply zAl | apply zSt | refine zVi (by assumption) ?_ ?_) | go_size
end Go.Proofs.Ythifeabcobgbmaa
