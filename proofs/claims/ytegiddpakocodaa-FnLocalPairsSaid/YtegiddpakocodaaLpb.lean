/- FnLocalPairs from the value on. -/
import Derived.Test.YtegiddpakocodaaLpa
namespace Go.Proofs.Ytegiddpakocodaa
open Go.RowKit
set_option linter.unusedVariables false
set_option maxHeartbeats 0
set_option maxRecDepth 20000
set_option linter.unusedSimpArgs false

theorem FnLp_29 {gd ga gc V x y cc : Int} {o5 o7 : Bool} {w W : World} {gG : Nat} {u0 u1 u2 u3 u4 u5 u6 u7 u8 u9 u10 u11 u12 u13 u14 u15 u16 u17 u18 u19 u20 u21 u22 u23 u24 u25 u26 u27 u31 u34 u35 u36 u37 u38 u41 u42 u43 u44 u45 u46 u47 u48 u49 u50 u51 u52 u53 u54 u55 u56 u57 u58 u59 u60 u61 u62 u63 u64 u65 u66 u67 u68 u69 u70 u71 u72 u73 u74 u75 u76 u77 u78 u79 u80 u81 u82 u83 u84 u85 u86 u87 u88 u89 u90 u91 u92 u93 u94 u95 u96 u97 u98 u99 u100 u101 u102 u103 u104 u105 u106 u107 u108 u109 u110 u111 u112 u113 u114 u115 u116 u117 u118 u119 u120 u121 u122 u123 u124 u125 u126 u127 u128 u129 u130 u131 u132 u133 u134 u135 u136 u137 u138 u139 u140 u141 u142 u143 u144 u145 u146 u147 u148 u149 u150 u151 u152 u153 u154 u155 u156 u157 u158 u159 u160 u161 u162 u163 u164 u165 u166 u167 u168 u169 u170 u171 u172 u173 u174 u175 u176 u177 u178 u179 u180 u181 u182 u183 u184 u185 u186 u187 u188 u189 u190 u191 u192 u193 u194 u195 u196 u197 u198 u199 u200 u201 u202 u203 u204 u205 u206 u207 u208 u209 u210 u211 u212 u213 u214 u215 u216 u217 u218 u219 u220 u221 u222 u223 u224 u225 u226 u227 u228 u229 u230 u231 u232 u233 u234 u235 u236 u237 u238 u239 u240 u241 u242 u243 u244 u245 u246 u247 u248 u249 u250 u251 u252 u253 u254 u255 u256 u257 u258 u259 u260 u261 u262 u263 u264 u265 u266 u267 u268 u269 u270 u271 u272 u273 u274 u275 u276 u277 u278 u279 u280 u281 u282 u283 u284 u285 u286 u287 u288 u289 u290 u291 u292 u293 u294 u295 u296 u297 u298 u299 u300 u301 u302 u303 u304 u305 u306 u307 u308 u309 u310 u311 u312 u313 u314 u315 u316 u317 u318 u319 u320 u321 u322 u323 u324 u325 u326 u327 u328 u329 u330 u331 u332 u333 u334 u335 u336 u337 u338 u339 u340 u341 u342 u343 u344 u345 u346 u347 u348 u349 u350 u351 u352 u353 u354 u355 u356 u357 u358 u359 u360 u361 u362 u363 u364 u365 u366 u367 u368 u369 u370 u371 u372 u373 u374 u375 u376 u377 u378 u379 u380 : Value}
    (hB : Below w.heap.size w W) (HG : W.heap[gG]? = some (.cells #[.int .i64 gd, .int .i64 ga, .int .i64 gc] 24 (0, 0))) (hcc : 0 ≤ cc)
    (Fq : (o5 = true → (x ≠ 0 ∨ y ≠ 0) → ∀ s : Int, s * s = V → (RetC 21 #[.agg #[.int .i64 gd, .int .i64 ga, .int .i64 gc]] (.tuple #[.bool true, .bool true]) ∧ ∀ p : Int, p = 2 ∨ p = 3 ∨ p = 5 → ∃ told : Bool, RetC 7 #[.agg #[.int .i64 gd, .int .i64 ga, .int .i64 gc], .int .i64 p] (.tuple #[.bool told, .bool told]) ∧ RetC 8 #[.agg #[.int .i64 gd, .int .i64 ga, .int .i64 gc], .int .i64 p] (.tuple #[.bool told, .bool told]))))
    : Code.wp Try.prog (dropTo 29 (bodyOf Try.f3)) (bodyPost Try.prog Try.f3 fun e w' => e = .returned (.bool true) ∧ Below w.heap.size w w') { tmps := #[u0, u1, u2, u3, u4, u5, u6, u7, u8, u9, u10, u11, u12, u13, u14, u15, u16, u17, u18, u19, u20, u21, u22, u23, u24, u25, u26, u27, .pointer (some ⟨gG, 0, none⟩), .int .i64 x, .int .i64 y, u31, .bool o5, .int .i64 V, u34, u35, u36, u37, u38, .bool o7, .int .i64 cc, u41, u42, u43, u44, u45, u46, u47, u48, u49, u50, u51, u52, u53, u54, u55, u56, u57, u58, u59, u60, u61, u62, u63, u64, u65, u66, u67, u68, u69, u70, u71, u72, u73, u74, u75, u76, u77, u78, u79, u80, u81, u82, u83, u84, u85, u86, u87, u88, u89, u90, u91, u92, u93, u94, u95, u96, u97, u98, u99, u100, u101, u102, u103, u104, u105, u106, u107, u108, u109, u110, u111, u112, u113, u114, u115, u116, u117, u118, u119, u120, u121, u122, u123, u124, u125, u126, u127, u128, u129, u130, u131, u132, u133, u134, u135, u136, u137, u138, u139, u140, u141, u142, u143, u144, u145, u146, u147, u148, u149, u150, u151, u152, u153, u154, u155, u156, u157, u158, u159, u160, u161, u162, u163, u164, u165, u166, u167, u168, u169, u170, u171, u172, u173, u174, u175, u176, u177, u178, u179, u180, u181, u182, u183, u184, u185, u186, u187, u188, u189, u190, u191, u192, u193, u194, u195, u196, u197, u198, u199, u200, u201, u202, u203, u204, u205, u206, u207, u208, u209, u210, u211, u212, u213, u214, u215, u216, u217, u218, u219, u220, u221, u222, u223, u224, u225, u226, u227, u228, u229, u230, u231, u232, u233, u234, u235, u236, u237, u238, u239, u240, u241, u242, u243, u244, u245, u246, u247, u248, u249, u250, u251, u252, u253, u254, u255, u256, u257, u258, u259, u260, u261, u262, u263, u264, u265, u266, u267, u268, u269, u270, u271, u272, u273, u274, u275, u276, u277, u278, u279, u280, u281, u282, u283, u284, u285, u286, u287, u288, u289, u290, u291, u292, u293, u294, u295, u296, u297, u298, u299, u300, u301, u302, u303, u304, u305, u306, u307, u308, u309, u310, u311, u312, u313, u314, u315, u316, u317, u318, u319, u320, u321, u322, u323, u324, u325, u326, u327, u328, u329, u330, u331, u332, u333, u334, u335, u336, u337, u338, u339, u340, u341, u342, u343, u344, u345, u346, u347, u348, u349, u350, u351, u352, u353, u354, u355, u356, u357, u358, u359, u360, u361, u362, u363, u364, u365, u366, u367, u368, u369, u370, u371, u372, u373, u374, u375, u376, u377, u378, u379, u380], defers := [] } W := by
  replace Fq := Lib.hid Fq
  have tok3 : True := trivial
  have tok6 : True := trivial
  have tok7 : True := trivial
  have tok8 : True := trivial
  conv in dropTo _ _ => whnf
  dsimp only
  refine chk (fun W => Below w.heap.size w W ∧ W.heap[gG]? = some (.cells #[.int .i64 gd, .int .i64 ga, .int .i64 gc] 24 (0, 0))) (by refine ⟨?_, ?_⟩ <;> (repeat' first | (with_reducible first | assumption | (apply Ne.symm; assumption) | apply Nat.le_refl | apply Nat.le_add_right | apply zL | apply zRf | apply Wx.box | apply Wx.box4 | apply zWa | apply Wx.drew | apply zWn | apply bx_drew | apply bx_drewN | apply bx_set3 | apply bx_set2 | apply bx_set4 | apply bx_set1) | ((with_reducible apply bx_new); (focus (go_size; done))) | (with_reducible first | apply zOl | apply zFa | apply zDn | apply zDr | apply zAl | apply zSt | refine zVi (by assumption) ?_ ?_) | go_size | omega)) ?_
  rintro w2 ⟨hB2, H_G_2⟩
  obtain ⟨k_G_2_0, k_G_2_1, k_G_2_2, f_G_2, l_G_2⟩ := bk3 H_G_2
  replace H_G_2 := Lib.hid H_G_2
  clear hB HG
  go_upto_region 29 with fail
  go_cut [313] (fun sq wx => ∃ q : Bool, sq = .bool q ∧ (q = true → o5 = true ∧ (x ≠ 0 ∨ y ≠ 0)) ∧ w2 = wx)
  case first =>
    as_aux_lemma =>
      clear Fq
      rcases o5 with _ | _
      · go_wp2_with fail
        go_meet
        exact ⟨false, rfl, by simp, rfl⟩
      · by_cases hV : 0 ≤ V
        · by_cases hx : x = 0
          · subst hx
            by_cases hy : y = 0
            · subst hy
              go_wp2_with fail
              go_meet
              exact ⟨false, rfl, by simp, rfl⟩
            · have hy2 : (y != 0) = true := by simpa using hy
              go_wp2_with fail
              go_meet
              exact ⟨true, rfl, fun _ => ⟨rfl, .inr hy⟩, rfl⟩
          · have hx2 : (x != 0) = true := by simpa using hx
            go_wp2_with fail
            go_meet
            exact ⟨true, rfl, fun _ => ⟨rfl, .inl hx⟩, rfl⟩
        · go_wp2_with fail
          go_meet
          exact ⟨false, rfl, by simp, rfl⟩
  case rest =>
    obtain ⟨q, rfl, hqs, hcw⟩ := hcut
    subst hcw
    rcases q with _ | _
    · have _t := trivial
      iterate 90 (first | ((with_reducible show Code.wp _ (.seq (.region 43 _ _) _) _ _ _); exact FnLp_43 hB2 hcc) | go_values | go_skip | go_guarded | go_step | go_upon | go_back | skip)
    · obtain ⟨rfl, hxy⟩ := hqs rfl
      go_upto_region 31 with (first | (have _t := tok3; go_at_call 20; refine (sSquareRootOf_some _ _ _).mono ?_; rintro e w3 ⟨r1, r2, os, rfl, hso, hb3⟩; clear tok3 _t; have hz3 := hb3.size; (try simp only [World.size_alloc, World.size_setCell, World.size_drew, World.size_drewN'] at hz3); (try (have kq := cellAt hb3 (gG) (by go_size); have k3_gG_0 := kq 0; have k3_gG_1 := kq 1; have k3_gG_2 := kq 2; clear kq; have f3_gG := frozAt hb3 (gG) (by go_size); simp [go_sem, *] at k3_gG_0 k3_gG_1 k3_gG_2 f3_gG)); (try have l3_gG : gG < w3.heap.size := by omega); (try clear k1_gG_0 k1_gG_1 k1_gG_2 f1_gG); (try clear l1_gG); (try clear k2_gG_0 k2_gG_1 k2_gG_2 f2_gG); (try clear l2_gG)))
      have H_G_3 := (hb3.block (gG) (blk_lt' H_G_2.out)).trans H_G_2.out
      clear k_G_2_0 k_G_2_1 k_G_2_2 f_G_2 H_G_2
      obtain ⟨k_G_3_0, k_G_3_1, k_G_3_2, f_G_3, l_G_3⟩ := bk3 H_G_3
      replace H_G_3 := Lib.hid H_G_3
      have hB3 : Below w.heap.size w w3 := below_via hb3 (by assumption) (by first | exact hB2.size | go_size)
      have sz1 := hB3.size
      replace H_G_3 := H_G_3.out
      refine chk (fun W => Below w.heap.size w W ∧ W.heap[gG]? = some (.cells #[.int .i64 gd, .int .i64 ga, .int .i64 gc] 24 (0, 0)) ∧ W.heap[w3.heap.size]? = some (.cells #[.int .i64 r1, .int .i64 r2] 40 (0, 0))) (by refine ⟨?_, ?_, ?_⟩ <;> (repeat' first | (with_reducible first | assumption | (apply Ne.symm; assumption) | apply Nat.le_refl | apply Nat.le_add_right | apply zL | apply zRf | apply Wx.box | apply Wx.box4 | apply zWa | apply Wx.drew | apply zWn | apply bx_drew | apply bx_drewN | apply bx_set3 | apply bx_set2 | apply bx_set4 | apply bx_set1) | ((with_reducible apply bx_new); (focus (go_size; done))) | (with_reducible first | apply zOl | apply zFa | apply zDn | apply zDr | apply zAl | apply zSt | refine zVi (by assumption) ?_ ?_) | go_size | omega)) ?_
      clear k_G_3_0 k_G_3_1 k_G_3_2 f_G_3 H_G_3
      clear hB3
      rintro w4 ⟨hB4, H_G_4, H_R_4⟩
      obtain ⟨k_G_4_0, k_G_4_1, k_G_4_2, f_G_4, l_G_4⟩ := bk3 H_G_4
      replace H_G_4 := Lib.hid H_G_4
      obtain ⟨k_R_4_0, k_R_4_1, f_R_4, l_R_4⟩ := bk2 H_R_4
      replace H_R_4 := Lib.hid H_R_4
      clear hb3
      rcases os with _ | _
      · clear Fq hso hqs
        iterate 90 (first | ((with_reducible show Code.wp _ (.seq (.region 43 _ _) _) _ _ _); exact FnLp_43 hB4 hcc) | go_values | go_skip | go_guarded | go_step | go_upon | go_back | skip)
      · obtain ⟨q1, q2, q3⟩ := hso rfl
        obtain ⟨RH, hps⟩ := Fq.out (by simp) hxy r1 q3
        have T8 := fun W : World => Lib.hid (RH W)
        replace hps := Lib.hid hps
        have m1 := mul_bd (a := r1) (b := r1) (A := 31623) (B := 31623) (by omega) (by omega)
        have g1 : (r1 * r1 == V) = true := by simp [q3]
        clear Fq RH hso hxy hqs
        go_upto_region 33 with fail
        have sz4 := hB4.size
        replace H_G_4 := H_G_4.out
        replace H_R_4 := H_R_4.out
        refine chk (fun W => Below w.heap.size w W ∧ W.heap[gG]? = some (.cells #[.int .i64 gd, .int .i64 ga, .int .i64 gc] 24 (0, 0)) ∧ W.heap[w4.heap.size]? = some (.cells #[.int .i64 2, .int .i64 3, .int .i64 5] 3 (0, 0))) (by refine ⟨?_, ?_, ?_⟩ <;> (repeat' first | (with_reducible first | assumption | (apply Ne.symm; assumption) | apply Nat.le_refl | apply Nat.le_add_right | apply zL | apply zRf | apply Wx.box | apply Wx.box4 | apply zWa | apply Wx.drew | apply zWn | apply bx_drew | apply bx_drewN | apply bx_set3 | apply bx_set2 | apply bx_set4 | apply bx_set1) | ((with_reducible apply bx_new); (focus (go_size; done))) | (with_reducible first | apply zOl | apply zFa | apply zDn | apply zDr | apply zAl | apply zSt | refine zVi (by assumption) ?_ ?_) | go_size | omega)) ?_
        clear k_G_4_0 k_G_4_1 k_G_4_2 f_G_4 H_G_4
        clear k_R_4_0 k_R_4_1 f_R_4 H_R_4
        clear hB4
        rintro w5 ⟨hB5, H_G_5, H_L_5⟩
        obtain ⟨k_G_5_0, k_G_5_1, k_G_5_2, f_G_5, l_G_5⟩ := bk3 H_G_5
        replace H_G_5 := Lib.hid H_G_5
        obtain ⟨k_L_5_0, k_L_5_1, k_L_5_2, f_L_5, l_L_5⟩ := bk3 H_L_5
        replace H_L_5 := Lib.hid H_L_5
        clear g1 m1 q3
        go_loopw [332] (fun iv wr => ∃ k : Nat, k ≤ 3 ∧ iv = .int .i64 k ∧ Below w5.heap.size w5 wr) (fun iv _ => (3 - intOf iv).toNat)
        case atStart => exact ⟨0, by omega, rfl, Below.refl _ _⟩
        case round =>
          obtain ⟨k, hk, rfl, hb9⟩ := hrel
          rename World => w9
          have H_G_9 := (hb9.block (gG) (blk_lt' H_G_5.out)).trans H_G_5.out
          clear k_G_5_0 k_G_5_1 k_G_5_2 f_G_5 H_G_5
          obtain ⟨k_G_9_0, k_G_9_1, k_G_9_2, f_G_9, l_G_9⟩ := bk3 H_G_9
          replace H_G_9 := Lib.hid H_G_9
          have H_L_9 := (hb9.block (w4.heap.size) (blk_lt' H_L_5.out)).trans H_L_5.out
          clear k_L_5_0 k_L_5_1 k_L_5_2 f_L_5 H_L_5
          obtain ⟨k_L_9_0, k_L_9_1, k_L_9_2, f_L_9, l_L_9⟩ := bk3 H_L_9
          replace H_L_9 := Lib.hid H_L_9
          have hB9 : Below w.heap.size w w9 := below_via hb9 (by assumption) (by first | exact hB5.size | go_size)
          have sz9 := hb9.size
          rcases (show k = 0 ∨ k = 1 ∨ k = 2 ∨ k = 3 by omega) with rfl | rfl | rfl | rfl
          · obtain ⟨told, R6, R7⟩ := hps.out 2 (by omega)
            have T6 := fun W : World => Lib.hid (R6 W)
            have T7 := fun W : World => Lib.hid (R7 W)
            have e1 : (told != told) = false := by simp
            clear R6 R7 hps T8
            cases told
            · go_upto_region 36 with (first | (have _t := tok6; go_at_call 7; (with_reducible refine ((T6 _).out).mono ?_); rintro e w6 ⟨rfl, hb6⟩; clear tok6 _t; have hz6 := hb6.size; (try simp only [World.size_alloc, World.size_setCell, World.size_drew, World.size_drewN'] at hz6); (try (have kq := cellAt hb6 (gG) (by go_size); have k6_gG_0 := kq 0; have k6_gG_1 := kq 1; have k6_gG_2 := kq 2; clear kq; have f6_gG := frozAt hb6 (gG) (by go_size); simp [go_sem, *] at k6_gG_0 k6_gG_1 k6_gG_2 f6_gG)); (try have l6_gG : gG < w6.heap.size := by omega); (try clear k2_gG_0 k2_gG_1 k2_gG_2 f2_gG); (try clear l2_gG); (try clear k3_gG_0 k3_gG_1 k3_gG_2 f3_gG); (try clear l3_gG); (try clear k4_gG_0 k4_gG_1 k4_gG_2 f4_gG); (try clear l4_gG); (try clear k5_gG_0 k5_gG_1 k5_gG_2 f5_gG); (try clear l5_gG)))
              go_wp2_with (first | (have _t := tok7; go_at_call 8; (with_reducible refine ((T7 _).out).mono ?_); rintro e w7 ⟨rfl, hb7⟩; clear tok7 _t; have hz7 := hb7.size; (try simp only [World.size_alloc, World.size_setCell, World.size_drew, World.size_drewN'] at hz7); (try (have kq := cellAt hb7 (gG) (by go_size); have k7_gG_0 := kq 0; have k7_gG_1 := kq 1; have k7_gG_2 := kq 2; clear kq; have f7_gG := frozAt hb7 (gG) (by go_size); simp [go_sem, *] at k7_gG_0 k7_gG_1 k7_gG_2 f7_gG)); (try have l7_gG : gG < w7.heap.size := by omega); (try clear k3_gG_0 k3_gG_1 k3_gG_2 f3_gG); (try clear l3_gG); (try clear k4_gG_0 k4_gG_1 k4_gG_2 f4_gG); (try clear l4_gG); (try clear k5_gG_0 k5_gG_1 k5_gG_2 f5_gG); (try clear l5_gG); (try clear k6_gG_0 k6_gG_1 k6_gG_2 f6_gG); (try clear l6_gG)))
              go_roundw
              case rel => first | exact ⟨1, by omega, by first | rfl | go_num, by repeat' first | (with_reducible first | apply zRf | assumption | apply zDn | apply zDr | apply zAl | apply zSt | refine zVi (by assumption) ?_ ?_) | go_size⟩ | ((repeat (with_reducible apply Exists.intro)); exact ⟨⟨1, by omega, by first | rfl | go_num, by repeat' first | (with_reducible first | apply zRf | assumption | apply zDn | apply zDr | apply zAl | apply zSt | refine zVi (by assumption) ?_ ?_) | go_size⟩, rfl⟩)
              case measure => simp [intOf]
            · go_upto_region 36 with (first | (have _t := tok6; go_at_call 7; (with_reducible refine ((T6 _).out).mono ?_); rintro e w6 ⟨rfl, hb6⟩; clear tok6 _t; have hz6 := hb6.size; (try simp only [World.size_alloc, World.size_setCell, World.size_drew, World.size_drewN'] at hz6); (try (have kq := cellAt hb6 (gG) (by go_size); have k6_gG_0 := kq 0; have k6_gG_1 := kq 1; have k6_gG_2 := kq 2; clear kq; have f6_gG := frozAt hb6 (gG) (by go_size); simp [go_sem, *] at k6_gG_0 k6_gG_1 k6_gG_2 f6_gG)); (try have l6_gG : gG < w6.heap.size := by omega); (try clear k2_gG_0 k2_gG_1 k2_gG_2 f2_gG); (try clear l2_gG); (try clear k3_gG_0 k3_gG_1 k3_gG_2 f3_gG); (try clear l3_gG); (try clear k4_gG_0 k4_gG_1 k4_gG_2 f4_gG); (try clear l4_gG); (try clear k5_gG_0 k5_gG_1 k5_gG_2 f5_gG); (try clear l5_gG)))
              go_wp2_with (first | (have _t := tok7; go_at_call 8; (with_reducible refine ((T7 _).out).mono ?_); rintro e w7 ⟨rfl, hb7⟩; clear tok7 _t; have hz7 := hb7.size; (try simp only [World.size_alloc, World.size_setCell, World.size_drew, World.size_drewN'] at hz7); (try (have kq := cellAt hb7 (gG) (by go_size); have k7_gG_0 := kq 0; have k7_gG_1 := kq 1; have k7_gG_2 := kq 2; clear kq; have f7_gG := frozAt hb7 (gG) (by go_size); simp [go_sem, *] at k7_gG_0 k7_gG_1 k7_gG_2 f7_gG)); (try have l7_gG : gG < w7.heap.size := by omega); (try clear k3_gG_0 k3_gG_1 k3_gG_2 f3_gG); (try clear l3_gG); (try clear k4_gG_0 k4_gG_1 k4_gG_2 f4_gG); (try clear l4_gG); (try clear k5_gG_0 k5_gG_1 k5_gG_2 f5_gG); (try clear l5_gG); (try clear k6_gG_0 k6_gG_1 k6_gG_2 f6_gG); (try clear l6_gG)))
              go_roundw
              case rel => first | exact ⟨1, by omega, by first | rfl | go_num, by repeat' first | (with_reducible first | apply zRf | assumption | apply zDn | apply zDr | apply zAl | apply zSt | refine zVi (by assumption) ?_ ?_) | go_size⟩ | ((repeat (with_reducible apply Exists.intro)); exact ⟨⟨1, by omega, by first | rfl | go_num, by repeat' first | (with_reducible first | apply zRf | assumption | apply zDn | apply zDr | apply zAl | apply zSt | refine zVi (by assumption) ?_ ?_) | go_size⟩, rfl⟩)
              case measure => simp [intOf]
          · obtain ⟨told, R6, R7⟩ := hps.out 3 (by omega)
            have T6 := fun W : World => Lib.hid (R6 W)
            have T7 := fun W : World => Lib.hid (R7 W)
            have e1 : (told != told) = false := by simp
            clear R6 R7 hps T8
            cases told
            · go_upto_region 36 with (first | (have _t := tok6; go_at_call 7; (with_reducible refine ((T6 _).out).mono ?_); rintro e w6 ⟨rfl, hb6⟩; clear tok6 _t; have hz6 := hb6.size; (try simp only [World.size_alloc, World.size_setCell, World.size_drew, World.size_drewN'] at hz6); (try (have kq := cellAt hb6 (gG) (by go_size); have k6_gG_0 := kq 0; have k6_gG_1 := kq 1; have k6_gG_2 := kq 2; clear kq; have f6_gG := frozAt hb6 (gG) (by go_size); simp [go_sem, *] at k6_gG_0 k6_gG_1 k6_gG_2 f6_gG)); (try have l6_gG : gG < w6.heap.size := by omega); (try clear k2_gG_0 k2_gG_1 k2_gG_2 f2_gG); (try clear l2_gG); (try clear k3_gG_0 k3_gG_1 k3_gG_2 f3_gG); (try clear l3_gG); (try clear k4_gG_0 k4_gG_1 k4_gG_2 f4_gG); (try clear l4_gG); (try clear k5_gG_0 k5_gG_1 k5_gG_2 f5_gG); (try clear l5_gG)))
              go_wp2_with (first | (have _t := tok7; go_at_call 8; (with_reducible refine ((T7 _).out).mono ?_); rintro e w7 ⟨rfl, hb7⟩; clear tok7 _t; have hz7 := hb7.size; (try simp only [World.size_alloc, World.size_setCell, World.size_drew, World.size_drewN'] at hz7); (try (have kq := cellAt hb7 (gG) (by go_size); have k7_gG_0 := kq 0; have k7_gG_1 := kq 1; have k7_gG_2 := kq 2; clear kq; have f7_gG := frozAt hb7 (gG) (by go_size); simp [go_sem, *] at k7_gG_0 k7_gG_1 k7_gG_2 f7_gG)); (try have l7_gG : gG < w7.heap.size := by omega); (try clear k3_gG_0 k3_gG_1 k3_gG_2 f3_gG); (try clear l3_gG); (try clear k4_gG_0 k4_gG_1 k4_gG_2 f4_gG); (try clear l4_gG); (try clear k5_gG_0 k5_gG_1 k5_gG_2 f5_gG); (try clear l5_gG); (try clear k6_gG_0 k6_gG_1 k6_gG_2 f6_gG); (try clear l6_gG)))
              go_roundw
              case rel => first | exact ⟨2, by omega, by first | rfl | go_num, by repeat' first | (with_reducible first | apply zRf | assumption | apply zDn | apply zDr | apply zAl | apply zSt | refine zVi (by assumption) ?_ ?_) | go_size⟩ | ((repeat (with_reducible apply Exists.intro)); exact ⟨⟨2, by omega, by first | rfl | go_num, by repeat' first | (with_reducible first | apply zRf | assumption | apply zDn | apply zDr | apply zAl | apply zSt | refine zVi (by assumption) ?_ ?_) | go_size⟩, rfl⟩)
              case measure => simp [intOf]
            · go_upto_region 36 with (first | (have _t := tok6; go_at_call 7; (with_reducible refine ((T6 _).out).mono ?_); rintro e w6 ⟨rfl, hb6⟩; clear tok6 _t; have hz6 := hb6.size; (try simp only [World.size_alloc, World.size_setCell, World.size_drew, World.size_drewN'] at hz6); (try (have kq := cellAt hb6 (gG) (by go_size); have k6_gG_0 := kq 0; have k6_gG_1 := kq 1; have k6_gG_2 := kq 2; clear kq; have f6_gG := frozAt hb6 (gG) (by go_size); simp [go_sem, *] at k6_gG_0 k6_gG_1 k6_gG_2 f6_gG)); (try have l6_gG : gG < w6.heap.size := by omega); (try clear k2_gG_0 k2_gG_1 k2_gG_2 f2_gG); (try clear l2_gG); (try clear k3_gG_0 k3_gG_1 k3_gG_2 f3_gG); (try clear l3_gG); (try clear k4_gG_0 k4_gG_1 k4_gG_2 f4_gG); (try clear l4_gG); (try clear k5_gG_0 k5_gG_1 k5_gG_2 f5_gG); (try clear l5_gG)))
              go_wp2_with (first | (have _t := tok7; go_at_call 8; (with_reducible refine ((T7 _).out).mono ?_); rintro e w7 ⟨rfl, hb7⟩; clear tok7 _t; have hz7 := hb7.size; (try simp only [World.size_alloc, World.size_setCell, World.size_drew, World.size_drewN'] at hz7); (try (have kq := cellAt hb7 (gG) (by go_size); have k7_gG_0 := kq 0; have k7_gG_1 := kq 1; have k7_gG_2 := kq 2; clear kq; have f7_gG := frozAt hb7 (gG) (by go_size); simp [go_sem, *] at k7_gG_0 k7_gG_1 k7_gG_2 f7_gG)); (try have l7_gG : gG < w7.heap.size := by omega); (try clear k3_gG_0 k3_gG_1 k3_gG_2 f3_gG); (try clear l3_gG); (try clear k4_gG_0 k4_gG_1 k4_gG_2 f4_gG); (try clear l4_gG); (try clear k5_gG_0 k5_gG_1 k5_gG_2 f5_gG); (try clear l5_gG); (try clear k6_gG_0 k6_gG_1 k6_gG_2 f6_gG); (try clear l6_gG)))
              go_roundw
              case rel => first | exact ⟨2, by omega, by first | rfl | go_num, by repeat' first | (with_reducible first | apply zRf | assumption | apply zDn | apply zDr | apply zAl | apply zSt | refine zVi (by assumption) ?_ ?_) | go_size⟩ | ((repeat (with_reducible apply Exists.intro)); exact ⟨⟨2, by omega, by first | rfl | go_num, by repeat' first | (with_reducible first | apply zRf | assumption | apply zDn | apply zDr | apply zAl | apply zSt | refine zVi (by assumption) ?_ ?_) | go_size⟩, rfl⟩)
              case measure => simp [intOf]
          · obtain ⟨told, R6, R7⟩ := hps.out 5 (by omega)
            have T6 := fun W : World => Lib.hid (R6 W)
            have T7 := fun W : World => Lib.hid (R7 W)
            have e1 : (told != told) = false := by simp
            clear R6 R7 hps T8
            cases told
            · go_upto_region 36 with (first | (have _t := tok6; go_at_call 7; (with_reducible refine ((T6 _).out).mono ?_); rintro e w6 ⟨rfl, hb6⟩; clear tok6 _t; have hz6 := hb6.size; (try simp only [World.size_alloc, World.size_setCell, World.size_drew, World.size_drewN'] at hz6); (try (have kq := cellAt hb6 (gG) (by go_size); have k6_gG_0 := kq 0; have k6_gG_1 := kq 1; have k6_gG_2 := kq 2; clear kq; have f6_gG := frozAt hb6 (gG) (by go_size); simp [go_sem, *] at k6_gG_0 k6_gG_1 k6_gG_2 f6_gG)); (try have l6_gG : gG < w6.heap.size := by omega); (try clear k2_gG_0 k2_gG_1 k2_gG_2 f2_gG); (try clear l2_gG); (try clear k3_gG_0 k3_gG_1 k3_gG_2 f3_gG); (try clear l3_gG); (try clear k4_gG_0 k4_gG_1 k4_gG_2 f4_gG); (try clear l4_gG); (try clear k5_gG_0 k5_gG_1 k5_gG_2 f5_gG); (try clear l5_gG)))
              go_wp2_with (first | (have _t := tok7; go_at_call 8; (with_reducible refine ((T7 _).out).mono ?_); rintro e w7 ⟨rfl, hb7⟩; clear tok7 _t; have hz7 := hb7.size; (try simp only [World.size_alloc, World.size_setCell, World.size_drew, World.size_drewN'] at hz7); (try (have kq := cellAt hb7 (gG) (by go_size); have k7_gG_0 := kq 0; have k7_gG_1 := kq 1; have k7_gG_2 := kq 2; clear kq; have f7_gG := frozAt hb7 (gG) (by go_size); simp [go_sem, *] at k7_gG_0 k7_gG_1 k7_gG_2 f7_gG)); (try have l7_gG : gG < w7.heap.size := by omega); (try clear k3_gG_0 k3_gG_1 k3_gG_2 f3_gG); (try clear l3_gG); (try clear k4_gG_0 k4_gG_1 k4_gG_2 f4_gG); (try clear l4_gG); (try clear k5_gG_0 k5_gG_1 k5_gG_2 f5_gG); (try clear l5_gG); (try clear k6_gG_0 k6_gG_1 k6_gG_2 f6_gG); (try clear l6_gG)))
              go_roundw
              case rel => first | exact ⟨3, by omega, by first | rfl | go_num, by repeat' first | (with_reducible first | apply zRf | assumption | apply zDn | apply zDr | apply zAl | apply zSt | refine zVi (by assumption) ?_ ?_) | go_size⟩ | ((repeat (with_reducible apply Exists.intro)); exact ⟨⟨3, by omega, by first | rfl | go_num, by repeat' first | (with_reducible first | apply zRf | assumption | apply zDn | apply zDr | apply zAl | apply zSt | refine zVi (by assumption) ?_ ?_) | go_size⟩, rfl⟩)
              case measure => simp [intOf]
            · go_upto_region 36 with (first | (have _t := tok6; go_at_call 7; (with_reducible refine ((T6 _).out).mono ?_); rintro e w6 ⟨rfl, hb6⟩; clear tok6 _t; have hz6 := hb6.size; (try simp only [World.size_alloc, World.size_setCell, World.size_drew, World.size_drewN'] at hz6); (try (have kq := cellAt hb6 (gG) (by go_size); have k6_gG_0 := kq 0; have k6_gG_1 := kq 1; have k6_gG_2 := kq 2; clear kq; have f6_gG := frozAt hb6 (gG) (by go_size); simp [go_sem, *] at k6_gG_0 k6_gG_1 k6_gG_2 f6_gG)); (try have l6_gG : gG < w6.heap.size := by omega); (try clear k2_gG_0 k2_gG_1 k2_gG_2 f2_gG); (try clear l2_gG); (try clear k3_gG_0 k3_gG_1 k3_gG_2 f3_gG); (try clear l3_gG); (try clear k4_gG_0 k4_gG_1 k4_gG_2 f4_gG); (try clear l4_gG); (try clear k5_gG_0 k5_gG_1 k5_gG_2 f5_gG); (try clear l5_gG)))
              go_wp2_with (first | (have _t := tok7; go_at_call 8; (with_reducible refine ((T7 _).out).mono ?_); rintro e w7 ⟨rfl, hb7⟩; clear tok7 _t; have hz7 := hb7.size; (try simp only [World.size_alloc, World.size_setCell, World.size_drew, World.size_drewN'] at hz7); (try (have kq := cellAt hb7 (gG) (by go_size); have k7_gG_0 := kq 0; have k7_gG_1 := kq 1; have k7_gG_2 := kq 2; clear kq; have f7_gG := frozAt hb7 (gG) (by go_size); simp [go_sem, *] at k7_gG_0 k7_gG_1 k7_gG_2 f7_gG)); (try have l7_gG : gG < w7.heap.size := by omega); (try clear k3_gG_0 k3_gG_1 k3_gG_2 f3_gG); (try clear l3_gG); (try clear k4_gG_0 k4_gG_1 k4_gG_2 f4_gG); (try clear l4_gG); (try clear k5_gG_0 k5_gG_1 k5_gG_2 f5_gG); (try clear l5_gG); (try clear k6_gG_0 k6_gG_1 k6_gG_2 f6_gG); (try clear l6_gG)))
              go_roundw
              case rel => first | exact ⟨3, by omega, by first | rfl | go_num, by repeat' first | (with_reducible first | apply zRf | assumption | apply zDn | apply zDr | apply zAl | apply zSt | refine zVi (by assumption) ?_ ?_) | go_size⟩ | ((repeat (with_reducible apply Exists.intro)); exact ⟨⟨3, by omega, by first | rfl | go_num, by repeat' first | (with_reducible first | apply zRf | assumption | apply zDn | apply zDr | apply zAl | apply zSt | refine zVi (by assumption) ?_ ?_) | go_size⟩, rfl⟩)
              case measure => simp [intOf]
          · clear hps
            go_upto_region 41 with (first | (have _t := tok8; go_at_call 21; (with_reducible refine ((T8 _).out).mono ?_); rintro e w8 ⟨rfl, hb8⟩; clear tok8 _t; have hz8 := hb8.size; (try simp only [World.size_alloc, World.size_setCell, World.size_drew, World.size_drewN'] at hz8)))
            have H_G_8 := (hb8.block (gG) (blk_lt' H_G_9.out)).trans H_G_9.out
            clear k_G_9_0 k_G_9_1 k_G_9_2 f_G_9 H_G_9
            obtain ⟨k_G_8_0, k_G_8_1, k_G_8_2, f_G_8, l_G_8⟩ := bk3 H_G_8
            replace H_G_8 := Lib.hid H_G_8
            have H_L_8 := (hb8.block (w4.heap.size) (blk_lt' H_L_9.out)).trans H_L_9.out
            clear k_L_9_0 k_L_9_1 k_L_9_2 f_L_9 H_L_9
            obtain ⟨k_L_8_0, k_L_8_1, k_L_8_2, f_L_8, l_L_8⟩ := bk3 H_L_8
            replace H_L_8 := Lib.hid H_L_8
            have hB8 : Below w.heap.size w w8 := below_via hb8 (by assumption) (by first | exact hB9.size | go_size)
            have HB8 := hB9.trans (hb8.mono hB9.size)
            iterate 90 (first | ((with_reducible show Code.wp _ (.seq (.region 43 _ _) _) _ _ _); exact FnLp_43 HB8 hcc) | go_values | go_skip | go_guarded | go_step | go_upon | go_back | skip)
end Go.Proofs.Ytegiddpakocodaa
