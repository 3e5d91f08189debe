/- FnLocalPairs from the pair on. -/
import Derived.Test.YtegiddpakocodaaLpb
namespace Go.Proofs.Ytegiddpakocodaa
open Go.RowKit
set_option linter.unusedVariables false
set_option maxHeartbeats 0
set_option maxRecDepth 20000
set_option linter.unusedSimpArgs false

theorem FnLp_21 {D A C gd ga gc M E K p most V x y cc : Int} {ok o5 o7 : Bool} {w W : World} {gF gG : Nat} {u0 u1 u2 u3 u4 u11 u12 u14 u15 u16 u17 u18 u19 u20 u21 u22 u23 u24 u25 u26 u27 u31 u34 u35 u36 u37 u38 u41 u42 u43 u45 u46 u47 u48 u49 u50 u51 u52 u53 u54 u55 u56 u57 u58 u59 u60 u61 u62 u63 u64 u65 u66 u67 u68 u69 u70 u71 u72 u73 u74 u75 u76 u77 u78 u79 u80 u81 u82 u83 u84 u85 u86 u87 u88 u89 u90 u91 u92 u93 u94 u95 u96 u97 u98 u99 u100 u101 u102 u103 u104 u105 u106 u107 u108 u109 u110 u111 u112 u113 u114 u115 u116 u117 u118 u119 u120 u121 u122 u123 u124 u125 u126 u127 u128 u129 u130 u131 u132 u133 u134 u135 u136 u137 u138 u139 u140 u141 u142 u143 u144 u145 u146 u147 u148 u149 u150 u151 u152 u153 u154 u155 u156 u157 u158 u159 u160 u161 u162 u163 u164 u165 u166 u167 u168 u169 u170 u171 u172 u173 u174 u175 u176 u177 u178 u179 u180 u181 u182 u183 u184 u185 u186 u187 u188 u189 u190 u191 u192 u193 u194 u195 u196 u197 u198 u199 u200 u201 u202 u203 u204 u205 u206 u207 u208 u209 u210 u211 u212 u213 u214 u215 u216 u217 u218 u219 u220 u221 u222 u223 u224 u225 u226 u227 u228 u229 u230 u231 u232 u233 u234 u235 u236 u237 u238 u239 u240 u241 u242 u243 u244 u245 u246 u247 u248 u249 u250 u251 u252 u253 u254 u255 u256 u257 u258 u259 u260 u261 u262 u263 u264 u265 u266 u267 u268 u269 u270 u271 u272 u273 u274 u275 u276 u277 u278 u279 u280 u281 u282 u283 u284 u285 u286 u287 u288 u289 u290 u291 u292 u293 u294 u295 u296 u297 u298 u299 u300 u301 u302 u303 u304 u305 u306 u307 u308 u309 u310 u311 u312 u313 u314 u315 u316 u317 u318 u319 u320 u321 u322 u323 u324 u325 u326 u327 u328 u329 u330 u331 u332 u333 u334 u335 u336 u337 u338 u339 u340 u341 u342 u343 u344 u345 u346 u347 u348 u349 u350 u351 u352 u353 u354 u355 u356 u357 u358 u359 u360 u361 u362 u363 u364 u365 u366 u367 u368 u369 u370 u371 u372 u373 u374 u375 u376 u377 u378 u379 u380 : Value}
    (hB : Below w.heap.size w W) (HF : W.heap[gF]? = some (.cells #[.int .i64 D, .int .i64 A, .int .i64 C] 24 (0, 0))) (HG : W.heap[gG]? = some (.cells #[.int .i64 gd, .int .i64 ga, .int .i64 gc] 24 (0, 0))) (hcc : 0 ≤ cc)
    (Fl : (ok = true → RetC 10 #[.agg #[.int .i64 D, .int .i64 A, .int .i64 C], .int .i64 M, .int .i64 E, .int .i64 p, .int .i64 K] (.tuple #[.bool true, .bool true]) ∧ 1 ≤ K ∧ K ≤ most))
    (Fc : (ok = true → K = 1 → ∃ (many : Int) (was : Bool), RetC 16 #[.agg #[.int .i64 D, .int .i64 A, .int .i64 C], .int .i64 p, .int .i64 1] (.tuple #[.int .i64 many, .bool was]) ∧ (was = true → 1 ≤ many)))
    (Fq : (o5 = true → (x ≠ 0 ∨ y ≠ 0) → ∀ s : Int, s * s = V → (RetC 21 #[.agg #[.int .i64 gd, .int .i64 ga, .int .i64 gc]] (.tuple #[.bool true, .bool true]) ∧ ∀ p : Int, p = 2 ∨ p = 3 ∨ p = 5 → ∃ told : Bool, RetC 7 #[.agg #[.int .i64 gd, .int .i64 ga, .int .i64 gc], .int .i64 p] (.tuple #[.bool told, .bool told]) ∧ RetC 8 #[.agg #[.int .i64 gd, .int .i64 ga, .int .i64 gc], .int .i64 p] (.tuple #[.bool told, .bool told]))))
    : Code.wp Try.prog (dropTo 21 (bodyOf Try.f3)) (bodyPost Try.prog Try.f3 fun e w' => e = .returned (.bool true) ∧ Below w.heap.size w w') { tmps := #[u0, u1, u2, u3, u4, .pointer (some ⟨gF, 0, none⟩), .int .i64 p, .int .i64 M, .int .i64 E, .int .i64 K, .bool ok, u11, u12, .int .i64 K, u14, u15, u16, u17, u18, u19, u20, u21, u22, u23, u24, u25, u26, u27, .pointer (some ⟨gG, 0, none⟩), .int .i64 x, .int .i64 y, u31, .bool o5, .int .i64 V, u34, u35, u36, u37, u38, .bool o7, .int .i64 cc, u41, u42, u43, .int .i64 most, u45, u46, u47, u48, u49, u50, u51, u52, u53, u54, u55, u56, u57, u58, u59, u60, u61, u62, u63, u64, u65, u66, u67, u68, u69, u70, u71, u72, u73, u74, u75, u76, u77, u78, u79, u80, u81, u82, u83, u84, u85, u86, u87, u88, u89, u90, u91, u92, u93, u94, u95, u96, u97, u98, u99, u100, u101, u102, u103, u104, u105, u106, u107, u108, u109, u110, u111, u112, u113, u114, u115, u116, u117, u118, u119, u120, u121, u122, u123, u124, u125, u126, u127, u128, u129, u130, u131, u132, u133, u134, u135, u136, u137, u138, u139, u140, u141, u142, u143, u144, u145, u146, u147, u148, u149, u150, u151, u152, u153, u154, u155, u156, u157, u158, u159, u160, u161, u162, u163, u164, u165, u166, u167, u168, u169, u170, u171, u172, u173, u174, u175, u176, u177, u178, u179, u180, u181, u182, u183, u184, u185, u186, u187, u188, u189, u190, u191, u192, u193, u194, u195, u196, u197, u198, u199, u200, u201, u202, u203, u204, u205, u206, u207, u208, u209, u210, u211, u212, u213, u214, u215, u216, u217, u218, u219, u220, u221, u222, u223, u224, u225, u226, u227, u228, u229, u230, u231, u232, u233, u234, u235, u236, u237, u238, u239, u240, u241, u242, u243, u244, u245, u246, u247, u248, u249, u250, u251, u252, u253, u254, u255, u256, u257, u258, u259, u260, u261, u262, u263, u264, u265, u266, u267, u268, u269, u270, u271, u272, u273, u274, u275, u276, u277, u278, u279, u280, u281, u282, u283, u284, u285, u286, u287, u288, u289, u290, u291, u292, u293, u294, u295, u296, u297, u298, u299, u300, u301, u302, u303, u304, u305, u306, u307, u308, u309, u310, u311, u312, u313, u314, u315, u316, u317, u318, u319, u320, u321, u322, u323, u324, u325, u326, u327, u328, u329, u330, u331, u332, u333, u334, u335, u336, u337, u338, u339, u340, u341, u342, u343, u344, u345, u346, u347, u348, u349, u350, u351, u352, u353, u354, u355, u356, u357, u358, u359, u360, u361, u362, u363, u364, u365, u366, u367, u368, u369, u370, u371, u372, u373, u374, u375, u376, u377, u378, u379, u380], defers := [] } W := by
  replace Fl := Lib.hid Fl
  replace Fc := Lib.hid Fc
  replace Fq := Lib.hid Fq
  have tok3 : True := trivial
  have tok4 : True := trivial
  conv in dropTo _ _ => whnf
  dsimp only
  refine chk (fun W => Below w.heap.size w W ∧ W.heap[gF]? = some (.cells #[.int .i64 D, .int .i64 A, .int .i64 C] 24 (0, 0)) ∧ W.heap[gG]? = some (.cells #[.int .i64 gd, .int .i64 ga, .int .i64 gc] 24 (0, 0))) (by refine ⟨?_, ?_, ?_⟩ <;> (repeat' first | (with_reducible first | assumption | (apply Ne.symm; assumption) | apply Nat.le_refl | apply Nat.le_add_right | apply zL | apply zRf | apply Wx.box | apply Wx.box4 | apply zWa | apply Wx.drew | apply zWn | apply bx_drew | apply bx_drewN | apply bx_set3 | apply bx_set2 | apply bx_set4 | apply bx_set1) | ((with_reducible apply bx_new); (focus (go_size; done))) | (with_reducible first | apply zOl | apply zFa | apply zDn | apply zDr | apply zAl | apply zSt | refine zVi (by assumption) ?_ ?_) | go_size | omega)) ?_
  rintro w2 ⟨hB2, H_F_2, H_G_2⟩
  obtain ⟨k_F_2_0, k_F_2_1, k_F_2_2, f_F_2, l_F_2⟩ := bk3 H_F_2
  replace H_F_2 := Lib.hid H_F_2
  obtain ⟨k_G_2_0, k_G_2_1, k_G_2_2, f_G_2, l_G_2⟩ := bk3 H_G_2
  replace H_G_2 := Lib.hid H_G_2
  clear hB HF HG
  cases ok
  · have _t := trivial
    iterate 90 (first | ((with_reducible show Code.wp _ (.seq (.seq (.region 29 _ _) _) _) _ _ _); exact FnLp_29 hB2 H_G_2.out hcc Fq.out) | go_values | go_skip | go_guarded | go_step | go_upon | go_back | skip)
  · obtain ⟨R3, k1, k2⟩ := Fl.out rfl
    have T3 := fun W : World => Lib.hid (R3 W)
    clear Fl R3
    go_upto_region 23 with (first | (have _t := tok3; go_at_call 10; (with_reducible refine ((T3 _).out).mono ?_); rintro e w3 ⟨rfl, hb3⟩; clear tok3 _t; have hz3 := hb3.size; (try simp only [World.size_alloc, World.size_setCell, World.size_drew, World.size_drewN'] at hz3); (try (have kq := cellAt hb3 (gF) (by go_size); have k3_gF_0 := kq 0; have k3_gF_1 := kq 1; have k3_gF_2 := kq 2; clear kq; have f3_gF := frozAt hb3 (gF) (by go_size); simp [go_sem, *] at k3_gF_0 k3_gF_1 k3_gF_2 f3_gF)); (try have l3_gF : gF < w3.heap.size := by omega); (try clear k1_gF_0 k1_gF_1 k1_gF_2 f1_gF); (try clear l1_gF); (try clear k2_gF_0 k2_gF_1 k2_gF_2 f2_gF); (try clear l2_gF)))
    have H_F_3 := (hb3.block (gF) (blk_lt' H_F_2.out)).trans H_F_2.out
    clear k_F_2_0 k_F_2_1 k_F_2_2 f_F_2 H_F_2
    obtain ⟨k_F_3_0, k_F_3_1, k_F_3_2, f_F_3, l_F_3⟩ := bk3 H_F_3
    replace H_F_3 := Lib.hid H_F_3
    have H_G_3 := (hb3.block (gG) (blk_lt' H_G_2.out)).trans H_G_2.out
    clear k_G_2_0 k_G_2_1 k_G_2_2 f_G_2 H_G_2
    obtain ⟨k_G_3_0, k_G_3_1, k_G_3_2, f_G_3, l_G_3⟩ := bk3 H_G_3
    replace H_G_3 := Lib.hid H_G_3
    have hB3 : Below w.heap.size w w3 := below_via hb3 (by assumption) (by first | exact hB2.size | go_size)
    clear hb3 T3
    have sz1 := hB3.size
    go_cut [287] (fun sq wx => sq = .bool false ∧ w3 = wx)
    case first =>
      as_aux_lemma =>
        clear Fc Fq
        go_wp2_with fail
        go_meet
        exact ⟨by first | rfl | (rw [show (decide (K < 1) || decide (most < K)) = false by simp; omega]), rfl⟩
    case rest =>
      obtain ⟨rfl, hcw⟩ := hcut
      subst hcw
      by_cases hK : K = 1
      · subst hK
        obtain ⟨many, was, R4, hm⟩ := Fc.out (by simp) (by simp)
        have T4 := fun W : World => Lib.hid (R4 W)
        clear Fc R4
        go_upto_region 27 with (first | (have _t := tok4; go_at_call 16; (with_reducible refine ((T4 _).out).mono ?_); rintro e w4 ⟨rfl, hb4⟩; clear tok4 _t; have hz4 := hb4.size; (try simp only [World.size_alloc, World.size_setCell, World.size_drew, World.size_drewN'] at hz4); (try (have kq := cellAt hb4 (gF) (by go_size); have k4_gF_0 := kq 0; have k4_gF_1 := kq 1; have k4_gF_2 := kq 2; clear kq; have f4_gF := frozAt hb4 (gF) (by go_size); simp [go_sem, *] at k4_gF_0 k4_gF_1 k4_gF_2 f4_gF)); (try have l4_gF : gF < w4.heap.size := by omega); (try clear k1_gF_0 k1_gF_1 k1_gF_2 f1_gF); (try clear l1_gF); (try clear k2_gF_0 k2_gF_1 k2_gF_2 f2_gF); (try clear l2_gF); (try clear k3_gF_0 k3_gF_1 k3_gF_2 f3_gF); (try clear l3_gF)))
        have H_F_4 := (hb4.block (gF) (blk_lt' H_F_3.out)).trans H_F_3.out
        clear k_F_3_0 k_F_3_1 k_F_3_2 f_F_3 H_F_3
        obtain ⟨k_F_4_0, k_F_4_1, k_F_4_2, f_F_4, l_F_4⟩ := bk3 H_F_4
        replace H_F_4 := Lib.hid H_F_4
        have H_G_4 := (hb4.block (gG) (blk_lt' H_G_3.out)).trans H_G_3.out
        clear k_G_3_0 k_G_3_1 k_G_3_2 f_G_3 H_G_3
        obtain ⟨k_G_4_0, k_G_4_1, k_G_4_2, f_G_4, l_G_4⟩ := bk3 H_G_4
        replace H_G_4 := Lib.hid H_G_4
        have hB4 : Below w.heap.size w w4 := below_via hb4 (by assumption) (by first | exact hB3.size | go_size)
        cases was
        · have _t := trivial
          iterate 90 (first | ((with_reducible show Code.wp _ (.seq (.seq (.region 29 _ _) _) _) _ _ _); exact FnLp_29 hB4 H_G_4.out hcc Fq.out) | go_values | go_skip | go_guarded | go_step | go_upon | go_back | skip)
        · have hm1 := hm rfl
          iterate 90 (first | ((with_reducible show Code.wp _ (.seq (.seq (.region 29 _ _) _) _) _ _ _); exact FnLp_29 hB4 H_G_4.out hcc Fq.out) | go_values | go_skip | go_guarded | go_step | go_upon | go_back | skip)
      · have hK2 : (K == 1) = false := by simpa using hK
        clear Fc
        iterate 90 (first | ((with_reducible show Code.wp _ (.seq (.seq (.region 29 _ _) _) _) _ _ _); exact FnLp_29 hB3 H_G_3.out hcc Fq.out) | go_values | go_skip | go_guarded | go_step | go_upon | go_back | skip)
end Go.Proofs.Ytegiddpakocodaa
