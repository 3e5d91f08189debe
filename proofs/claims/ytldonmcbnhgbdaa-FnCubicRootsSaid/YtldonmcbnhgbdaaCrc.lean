/- FnCubicRoots from the roots on. -/
import Derived.Test.YtldonmcbnhgbdaaCrb
namespace Go.Proofs.Ytldonmcbnhgbdaa
open Go.RowKit
set_option linter.unusedVariables false
set_option maxHeartbeats 0
set_option maxRecDepth 20000
set_option linter.unusedSimpArgs false

theorem RowF.step {W V : World} {B n : Nat} {a1 : Option Addr} {zs : List Int} (h : RowF W B n a1 zs) (hb : Below W.heap.size W V) : RowF V B n a1 zs := fun h0 => by
  obtain ⟨g, h1, h2, h3⟩ := h h0
  exact ⟨g, h1, h2, h3.via hb⟩
theorem RowF.low {W : World} {B n : Nat} {a1 : Option Addr} {zs : List Int} (h : RowF W B n a1 zs) : RowF W 0 n a1 zs := fun h0 => by
  obtain ⟨g, h1, h2, h3⟩ := h h0
  exact ⟨g, h1, Nat.zero_le _, h3⟩
theorem FnCr_23 {a b c d ua ub uc ud m e N D X Y Z : Int} {o3 o4 o ir : Bool} {w W : World} {gF gU gV nC c17 n c8 B8 : Nat} {a17 a8 : Option Addr} {zs : List Int} {u0 u1 u2 u3 u4 u6 u9 u10 u11 u13 u14 u15 u18 u19 u20 u22 u23 u24 u26 u27 u28 u29 u30 u31 u34 u35 u36 u41 u42 u43 u44 u45 u46 u47 u48 u49 u50 u51 u52 u53 u54 u55 u56 u57 u58 u59 u60 u61 u62 u63 u64 u65 u66 u67 u68 u69 u70 u71 u72 u73 u74 u75 u76 u77 u78 u79 u80 u81 u82 u83 u84 u85 u86 u87 u88 u89 u90 u91 u92 u93 u94 u95 u96 u97 u98 u99 u100 u101 u102 u103 u104 u105 u106 u107 u108 u109 u110 u111 u112 u113 u114 u115 u116 u117 u118 u119 u120 u121 u122 u123 u124 u125 u126 u127 u128 u129 u130 u131 u132 u133 u134 u135 u136 u137 u138 u139 u140 u141 u142 u143 u144 u145 u146 u147 u148 u149 u150 u151 u152 u153 u154 u155 u156 u157 u158 u159 u160 u161 u162 u163 u164 u165 u166 u167 u168 u169 u170 u171 u172 u173 u174 u175 u176 u177 u178 u179 u180 u181 u182 u183 u184 u185 u186 u187 u188 u189 u190 u191 u192 u193 u194 u195 u196 u197 u198 u199 u200 u201 u202 u203 u204 u205 u206 u207 u208 u209 u210 u211 u212 u213 u214 u215 u216 u217 u218 u219 u220 u221 u222 u223 u224 u225 u226 u227 u228 u229 u230 u231 u232 u233 u234 u235 u236 u237 u238 u239 u240 u241 u242 u243 u244 u245 u246 u247 u248 u249 u250 u251 u252 u253 u254 u255 u256 u257 u258 u259 u260 u261 u262 u263 u264 u265 u266 u267 u268 u269 u270 u271 u272 u273 u274 u275 u276 u277 u278 u279 u280 u281 u282 u283 u284 u285 u286 u287 u288 u289 u290 u291 u292 u293 u294 u295 u296 u297 u298 u299 u300 u301 u302 u303 u304 u305 u306 u307 u308 u309 u310 u311 u312 u313 u314 u315 u316 u317 u318 u319 u320 u321 u322 u323 u324 u325 u326 u327 u328 u329 u330 u331 u332 u333 u334 u335 u336 u337 u338 u339 u340 u341 u342 u343 u344 u345 u346 u347 u348 u349 u350 u351 u352 u353 u354 u355 u356 u357 u358 u359 u360 u361 u362 u363 u364 u365 : Value}
    (hB : Below w.heap.size w W) (HF : W.heap[gF]? = some (.cells #[.int .i64 a, .int .i64 b, .int .i64 c, .int .i64 d] 24 (0, 0))) (HU : W.heap[gU]? = some (.cells #[.int .i64 ua, .int .i64 ub, .int .i64 uc, .int .i64 ud] 24 (0, 0))) (HV : W.heap[gV]? = some (.cells #[.int .i64 m, .int .i64 e] 37 (0, 0))) (hC : nC ≤ 3000) (hz : zs.length = 2 * n) (hR : RowF W B8 n a8 zs)
    (Fk : (o = true → (ir = decide (n = 0) ∧ n ≤ 3) ∧ ∀ k, k < n → RootOk a b c d (zs[k * 2]?.getD 0) (zs[k * 2 + 1]?.getD 0) ∧ (0 < k → RootOk a b c d (zs[(k - 1) * 2]?.getD 0) (zs[(k - 1) * 2 + 1]?.getD 0) ∧ zs[(k - 1) * 2]?.getD 0 * zs[k * 2 + 1]?.getD 0 < zs[k * 2]?.getD 0 * zs[(k - 1) * 2 + 1]?.getD 0)))
    (Fo : (o4 = true → (e * X = ua ∧ e * Y - m * X = ub ∧ e * Z - m * Y = uc ∧ -m * Z = ud) ∧ (1 ≤ e ∧ e ≤ 1000) ∧ (-1000 ≤ m ∧ m ≤ 1000) ∧ (-1000 ≤ X ∧ X ≤ 1000) ∧ (-1001000 ≤ Y ∧ Y ≤ 1001000) ∧ (-1001001000 ≤ Z ∧ Z ≤ 1001001000)))
    (Fc : (o3 = true → (nC : Int) ≤ N ∧ nC ≠ 0 ∧ ((0 < D ∧ N = 3) ∨ (D ≤ 0 ∧ (N = 1 ∨ N = 2)))))
    : Code.wp Try.prog (dropTo 23 (bodyOf Try.f3)) (bodyPost Try.prog Try.f3 fun e w' => e = .returned (.bool true) ∧ Below w.heap.size w w') { tmps := #[u0, u1, u2, u3, u4, .pointer (some ⟨gF, 0, none⟩), u6, .bool o, .slice a8 n c8, u9, u10, u11, .bool ir, u13, u14, u15, .bool o3, .slice a17 nC c17, u18, u19, u20, .int .i64 N, u22, u23, u24, .int .i64 D, u26, u27, u28, u29, u30, u31, .pointer (some ⟨gU, 0, none⟩), .pointer (some ⟨gV, 0, none⟩), u34, u35, u36, .bool o4, .int .i64 X, .int .i64 Y, .int .i64 Z, u41, u42, u43, u44, u45, u46, u47, u48, u49, u50, u51, u52, u53, u54, u55, u56, u57, u58, u59, u60, u61, u62, u63, u64, u65, u66, u67, u68, u69, u70, u71, u72, u73, u74, u75, u76, u77, u78, u79, u80, u81, u82, u83, u84, u85, u86, u87, u88, u89, u90, u91, u92, u93, u94, u95, u96, u97, u98, u99, u100, u101, u102, u103, u104, u105, u106, u107, u108, u109, u110, u111, u112, u113, u114, u115, u116, u117, u118, u119, u120, u121, u122, u123, u124, u125, u126, u127, u128, u129, u130, u131, u132, u133, u134, u135, u136, u137, u138, u139, u140, u141, u142, u143, u144, u145, u146, u147, u148, u149, u150, u151, u152, u153, u154, u155, u156, u157, u158, u159, u160, u161, u162, u163, u164, u165, u166, u167, u168, u169, u170, u171, u172, u173, u174, u175, u176, u177, u178, u179, u180, u181, u182, u183, u184, u185, u186, u187, u188, u189, u190, u191, u192, u193, u194, u195, u196, u197, u198, u199, u200, u201, u202, u203, u204, u205, u206, u207, u208, u209, u210, u211, u212, u213, u214, u215, u216, u217, u218, u219, u220, u221, u222, u223, u224, u225, u226, u227, u228, u229, u230, u231, u232, u233, u234, u235, u236, u237, u238, u239, u240, u241, u242, u243, u244, u245, u246, u247, u248, u249, u250, u251, u252, u253, u254, u255, u256, u257, u258, u259, u260, u261, u262, u263, u264, u265, u266, u267, u268, u269, u270, u271, u272, u273, u274, u275, u276, u277, u278, u279, u280, u281, u282, u283, u284, u285, u286, u287, u288, u289, u290, u291, u292, u293, u294, u295, u296, u297, u298, u299, u300, u301, u302, u303, u304, u305, u306, u307, u308, u309, u310, u311, u312, u313, u314, u315, u316, u317, u318, u319, u320, u321, u322, u323, u324, u325, u326, u327, u328, u329, u330, u331, u332, u333, u334, u335, u336, u337, u338, u339, u340, u341, u342, u343, u344, u345, u346, u347, u348, u349, u350, u351, u352, u353, u354, u355, u356, u357, u358, u359, u360, u361, u362, u363, u364, u365], defers := [] } W := by
  replace Fk := Lib.hid Fk
  replace Fo := Lib.hid Fo
  replace Fc := Lib.hid Fc
  have tok11 : True := trivial
  have tok12 : True := trivial
  have tok15 : True := trivial
  conv in dropTo _ _ => whnf
  dsimp only
  refine chk (fun W => Below w.heap.size w W ∧ W.heap[gF]? = some (.cells #[.int .i64 a, .int .i64 b, .int .i64 c, .int .i64 d] 24 (0, 0)) ∧ W.heap[gU]? = some (.cells #[.int .i64 ua, .int .i64 ub, .int .i64 uc, .int .i64 ud] 24 (0, 0)) ∧ W.heap[gV]? = some (.cells #[.int .i64 m, .int .i64 e] 37 (0, 0)) ∧ RowF W B8 n a8 zs) (by refine ⟨?_, ?_, ?_, ?_, ?_⟩ <;> (repeat' first | (with_reducible first | assumption | (apply Ne.symm; assumption) | apply Nat.le_refl | apply Nat.le_add_right | apply zL | apply zRf | apply Wx.box | apply Wx.box4 | apply zWa | apply Wx.drew | apply zWn | apply bx_drew | apply bx_drewN | apply bx_set3 | apply bx_set2 | apply bx_set4 | apply bx_set1) | ((with_reducible apply bx_new); (focus (go_size; done))) | (with_reducible first | apply zOl | apply zFa | apply zDn | apply zDr | apply zAl | apply zSt | refine zVi (by assumption) ?_ ?_) | go_size | omega)) ?_
  rintro w2 ⟨hB2, H_F_2, H_U_2, H_V_2, hR2⟩
  obtain ⟨k_F_2_0, k_F_2_1, k_F_2_2, k_F_2_3, f_F_2, l_F_2⟩ := bk4 H_F_2
  replace H_F_2 := Lib.hid H_F_2
  obtain ⟨k_U_2_0, k_U_2_1, k_U_2_2, k_U_2_3, f_U_2, l_U_2⟩ := bk4 H_U_2
  replace H_U_2 := Lib.hid H_U_2
  obtain ⟨k_V_2_0, k_V_2_1, f_V_2, l_V_2⟩ := bk2 H_V_2
  replace H_V_2 := Lib.hid H_V_2
  clear hB HF HU HV hR
  cases o
  · have _t := trivial
    iterate 60 (first | (exact FnCr_34 hB2 H_U_2.out H_V_2.out hC Fo.out Fc.out) | go_values | go_skip | go_guarded | go_step | go_upon | go_back | skip)
  · obtain ⟨⟨hir, hn3⟩, hks⟩ := Fk.out rfl
    replace hks := Lib.hid hks
    clear Fk
    replace hir := Lib.hid hir
    have g1 : ¬ ((3 : Int) < (n : Int)) := by omega
    go_upto_region 24 with fail
    go_cut [248] (fun sq wx => sq = .bool false ∧ w2 = wx)
    case first =>
      as_aux_lemma =>
        have hir := hir.out
        clear Fc Fo hks hR2
        by_cases hn0 : n = 0
        · subst hn0
          obtain rfl : ir = true := by simpa using hir
          clear hir
          go_wp2_with fail
          go_meet
          exact ⟨rfl, rfl⟩
        · obtain rfl : ir = false := by simpa [hn0] using hir
          have g2 : ((n : Int) == 0) = false := by rw [eqZ]; simp [hn0]
          clear hir
          go_wp2_with fail
          go_meet
          exact ⟨rfl, rfl⟩
    case rest =>
      obtain ⟨rfl, hcw⟩ := hcut
      subst hcw
      clear hir g1
      go_upto_region 27 with fail
      go_loopw [251] (fun iv wr => ∃ k : Nat, k ≤ n ∧ iv = .int .i64 k ∧ Below w2.heap.size w2 wr) (fun iv _ => (n - intOf iv).toNat)
      case atStart => exact ⟨0, by omega, rfl, Below.refl _ _⟩
      case round =>
        obtain ⟨k, hk, rfl, hb9⟩ := hrel
        rename World => w9
        have H_F_9 := (hb9.block (gF) (blk_lt' H_F_2.out)).trans H_F_2.out
        clear k_F_2_0 k_F_2_1 k_F_2_2 k_F_2_3 f_F_2 H_F_2
        obtain ⟨k_F_9_0, k_F_9_1, k_F_9_2, k_F_9_3, f_F_9, l_F_9⟩ := bk4 H_F_9
        replace H_F_9 := Lib.hid H_F_9
        have H_U_9 := (hb9.block (gU) (blk_lt' H_U_2.out)).trans H_U_2.out
        clear k_U_2_0 k_U_2_1 k_U_2_2 k_U_2_3 f_U_2 H_U_2
        obtain ⟨k_U_9_0, k_U_9_1, k_U_9_2, k_U_9_3, f_U_9, l_U_9⟩ := bk4 H_U_9
        replace H_U_9 := Lib.hid H_U_9
        have H_V_9 := (hb9.block (gV) (blk_lt' H_V_2.out)).trans H_V_2.out
        clear k_V_2_0 k_V_2_1 f_V_2 H_V_2
        obtain ⟨k_V_9_0, k_V_9_1, f_V_9, l_V_9⟩ := bk2 H_V_9
        replace H_V_9 := Lib.hid H_V_9
        have hB9 : Below w.heap.size w w9 := below_via hb9 (by assumption) (by first | exact hB2.size | go_size)
        by_cases hkn : k < n
        · obtain ⟨hr1, hr2⟩ := hks.out k hkn
          have sz9 := hb9.size
          obtain ⟨g8, rfl, -, hrow0⟩ := hR2 (by omega)
          have hrow := hrow0.via hb9
          have hkc : (k : Int) < (n : Int) := by omega
          have c0 := (hrow.2 (k * 2) (by omega)).1
          have c1 := (hrow.2 (k * 2 + 1) (by omega)).1
          obtain ⟨x, hx⟩ : ∃ x, zs[k * 2]?.getD 0 = x := ⟨_, rfl⟩
          obtain ⟨y, hy⟩ : ∃ y, zs[k * 2 + 1]?.getD 0 = y := ⟨_, rfl⟩
          rw [hx] at c0 hr1 hr2
          rw [hy] at c1 hr1 hr2
          obtain ⟨R11, ⟨v1, v2, v3, R12⟩, bx, bY⟩ := hr1
          have T11 := fun W : World => Lib.hid (R11 W)
          have T12 := fun W : World => Lib.hid (R12 W)
          replace hr2 := Lib.hid hr2
          replace hrow := Lib.hid hrow
          clear R11 R12 hks Fc Fo hrow0 hR2 hx hy
          have hg8 := hrow.out.1
          go_upto_region 29 with fail
          have szb := hB9.size
          replace H_F_9 := H_F_9.out
          replace H_U_9 := H_U_9.out
          replace H_V_9 := H_V_9.out
          refine chk (fun W => Below w.heap.size w W ∧ W.heap[gF]? = some (.cells #[.int .i64 a, .int .i64 b, .int .i64 c, .int .i64 d] 24 (0, 0)) ∧ W.heap[w9.heap.size]? = some (.cells #[.int .i64 x, .int .i64 y] 37 (0, 0)) ∧ Below w9.heap.size w9 W) (by refine ⟨?_, ?_, ?_, ?_⟩ <;> (repeat' first | (with_reducible first | assumption | (apply Ne.symm; assumption) | apply Nat.le_refl | apply Nat.le_add_right | apply zL | apply zRf | apply Wx.box | apply Wx.box4 | apply zWa | apply Wx.drew | apply zWn | apply bx_drew | apply bx_drewN | apply bx_set3 | apply bx_set2 | apply bx_set4 | apply bx_set1) | ((with_reducible apply bx_new); (focus (go_size; done))) | (with_reducible first | apply zOl | apply zFa | apply zDn | apply zDr | apply zAl | apply zSt | refine zVi (by assumption) ?_ ?_) | go_size | omega)) ?_
          clear k_F_9_0 k_F_9_1 k_F_9_2 k_F_9_3 f_F_9 H_F_9
          clear k_U_9_0 k_U_9_1 k_U_9_2 k_U_9_3 f_U_9 H_U_9
          clear k_V_9_0 k_V_9_1 f_V_9 H_V_9
          clear hB9
          rintro w10 ⟨hB10, H_F_10, H_Xk_10, HBn⟩
          obtain ⟨k_F_10_0, k_F_10_1, k_F_10_2, k_F_10_3, f_F_10, l_F_10⟩ := bk4 H_F_10
          replace H_F_10 := Lib.hid H_F_10
          obtain ⟨k_Xk_10_0, k_Xk_10_1, f_Xk_10, l_Xk_10⟩ := bk2 H_Xk_10
          replace H_Xk_10 := Lib.hid H_Xk_10
          clear c0 c1
          go_upto_region 30 with (first | (have _t := tok11; go_at_call 22; (with_reducible refine ((T11 _).out).mono ?_); rintro e w11 ⟨rfl, hb11⟩; clear tok11 _t; have hz11 := hb11.size; (try simp only [World.size_alloc, World.size_setCell, World.size_drew, World.size_drewN'] at hz11); (try (have kq := cellAt hb11 (gF) (by go_size); have k11_gF_0 := kq 0; have k11_gF_1 := kq 1; have k11_gF_2 := kq 2; have k11_gF_3 := kq 3; clear kq; have f11_gF := frozAt hb11 (gF) (by go_size); simp [go_sem, *] at k11_gF_0 k11_gF_1 k11_gF_2 k11_gF_3 f11_gF)); (try have l11_gF : gF < w11.heap.size := by omega); (try (have kq := cellAt hb11 (w9.heap.size) (by go_size); have k11_w9_0_0 := kq 0; have k11_w9_0_1 := kq 1; clear kq; have f11_w9_0 := frozAt hb11 (w9.heap.size) (by go_size); simp [go_sem, *] at k11_w9_0_0 k11_w9_0_1 f11_w9_0)); (try have l11_w9_0 : w9.heap.size < w11.heap.size := by omega); (try clear k7_gF_0 k7_gF_1 k7_gF_2 k7_gF_3 f7_gF); (try clear l7_gF); (try clear k8_gF_0 k8_gF_1 k8_gF_2 k8_gF_3 f8_gF); (try clear l8_gF); (try clear k9_gF_0 k9_gF_1 k9_gF_2 k9_gF_3 f9_gF); (try clear l9_gF); (try clear k10_gF_0 k10_gF_1 k10_gF_2 k10_gF_3 f10_gF); (try clear l10_gF); (try clear k10_w9_0_0 k10_w9_0_1 f10_w9_0); (try clear l10_w9_0)))
          go_upto_region 31 with (first | (have _t := tok12; go_at_call 18; (with_reducible refine ((T12 _).out).mono ?_); rintro e w12 ⟨rfl, hb12⟩; clear tok12 _t; have hz12 := hb12.size; (try simp only [World.size_alloc, World.size_setCell, World.size_drew, World.size_drewN'] at hz12); (try (have kq := cellAt hb12 (gF) (by go_size); have k12_gF_0 := kq 0; have k12_gF_1 := kq 1; have k12_gF_2 := kq 2; have k12_gF_3 := kq 3; clear kq; have f12_gF := frozAt hb12 (gF) (by go_size); simp [go_sem, *] at k12_gF_0 k12_gF_1 k12_gF_2 k12_gF_3 f12_gF)); (try have l12_gF : gF < w12.heap.size := by omega); (try (have kq := cellAt hb12 (w9.heap.size) (by go_size); have k12_w9_0_0 := kq 0; have k12_w9_0_1 := kq 1; clear kq; have f12_w9_0 := frozAt hb12 (w9.heap.size) (by go_size); simp [go_sem, *] at k12_w9_0_0 k12_w9_0_1 f12_w9_0)); (try have l12_w9_0 : w9.heap.size < w12.heap.size := by omega); (try clear k8_gF_0 k8_gF_1 k8_gF_2 k8_gF_3 f8_gF); (try clear l8_gF); (try clear k9_gF_0 k9_gF_1 k9_gF_2 k9_gF_3 f9_gF); (try clear l9_gF); (try clear k10_gF_0 k10_gF_1 k10_gF_2 k10_gF_3 f10_gF); (try clear l10_gF); (try clear k10_w9_0_0 k10_w9_0_1 f10_w9_0); (try clear l10_w9_0); (try clear k11_gF_0 k11_gF_1 k11_gF_2 k11_gF_3 f11_gF); (try clear l11_gF); (try clear k11_w9_0_0 k11_w9_0_1 f11_w9_0); (try clear l11_w9_0)))
          have HB12 := HBn.trans ((hb11.trans (hb12.mono hb11.size)).mono HBn.size)
          have sz12 := HB12.size
          go_cut [293] (fun sq wx => sq = .bool false ∧ Below w12.heap.size w12 wx)
          case first =>
            as_aux_lemma =>
              by_cases hk0 : k = 0
              · subst hk0
                clear hr2 hrow
                go_quiet (fail)
                go_wp2_with fail
                go_meet
                exact ⟨rfl, by repeat' first | (with_reducible first | apply zRf | assumption | apply zDn | apply zDr | apply zAl | apply zSt | refine zVi (by assumption) ?_ ?_) | go_size⟩
              · obtain ⟨j, rfl⟩ : ∃ j, k = j + 1 := ⟨k - 1, by omega⟩
                obtain ⟨⟨-, -, bx1, bY1⟩, hlt⟩ := hr2.out (by omega)
                rw [show j + 1 - 1 = j by omega] at bx1 bY1 hlt
                have d0 := (HB12.cell (p := ⟨g8, j * 2, none⟩) hg8).trans (hrow.out.2 (j * 2) (by omega)).1
                have d1 := (HB12.cell (p := ⟨g8, j * 2 + 1, none⟩) hg8).trans (hrow.out.2 (j * 2 + 1) (by omega)).1
                generalize zs[j * 2]?.getD 0 = p at *
                generalize zs[j * 2 + 1]?.getD 0 = q at *
                have TQ := fun W : World => Lib.hid (qLess_true p q x y W (by omega) (by omega) (by omega) (by omega) hlt)
                have g12 : g8 < w12.heap.size := by omega
                have hj1 : (((j + 1 : Nat) : Int) - 1) = (j : Int) := by omega
                have hw1 : IntKind.i64.wrap (((j + 1 : Nat) : Int) - 1) = (j : Int) := by rw [IntKind.wrap_i64]; omega
                have hw2 : IntKind.i64.wrap ((j : Int) + 1 - 1) = (j : Int) := by rw [IntKind.wrap_i64]; omega
                have hjn : (j : Int) < (n : Int) := by omega
                have hj0 : (0 : Int) ≤ (j : Int) := by omega
                have hjp : (0 : Int) < ((j + 1 : Nat) : Int) := by omega
                clear hr2 hrow hlt
                have hd1 : decide ((0 : Int) < ((j + 1 : Nat) : Int)) = true := decide_eq_true (by omega)
                have hd2 : decide ((0 : Int) < (j : Int) + 1) = true := decide_eq_true (by omega)
                have hd3 : (0 : Int) < (j : Int) + 1 := by omega
                refine wp_drawn' (n := 23) (by kernel_rfl) (by kernel_rfl) (by kernel_rfl) ?_
                apply Exists.intro
                refine ⟨?_, ?_⟩
                · intro W hW
                  have kr0 := fun x => (xcell hW g8 g12 x (j * 2)).trans d0
                  have kr1 := fun x => (xcell hW g8 g12 x (j * 2 + 1)).trans d1
                  have ks0 := fun x => (xcell hW w9.heap.size l12_w9_0 x 0).trans k12_w9_0_0
                  have ks1 := fun x => (xcell hW w9.heap.size l12_w9_0 x 1).trans k12_w9_0_1
                  simp only [List.take_succ_cons, List.take_zero]
                  repeat (go_big_quiet_step ((go_at_call 23; exact draw_of _ ((TQ _).out))))
                  exact wpQuiet_nil rfl
                intro w14 hb14
                simp only [List.drop_succ_cons, List.drop_zero, Act.put, List.setIfInBounds_toArray, List.set_cons_succ, List.set_cons_zero]
                have hz14 := hb14.size
                go_wp2_with fail
                go_meet
                exact ⟨rfl, by repeat' first | (with_reducible first | apply zRf | assumption | apply zDn | apply zDr | apply zAl | apply zSt | refine zVi (by assumption) ?_ ?_) | go_size⟩
          case rest =>
            obtain ⟨rfl, hb13⟩ := hcut
            go_wp2_with fail
            go_roundw
            case rel => first | exact ⟨k + 1, by omega, by go_num, by repeat' first | (with_reducible first | apply zRf | assumption | apply zDn | apply zDr | apply zAl | apply zSt | refine zVi (by assumption) ?_ ?_) | go_size⟩ | ((repeat (with_reducible apply Exists.intro)); exact ⟨⟨k + 1, by omega, by go_num, by repeat' first | (with_reducible first | apply zRf | assumption | apply zDn | apply zDr | apply zAl | apply zSt | refine zVi (by assumption) ?_ ?_) | go_size⟩, rfl⟩)
            case measure => simp [intOf]; omega
        · obtain rfl : k = n := by omega
          have sz9 := hb9.size
          iterate 60 (first | (exact FnCr_34 hB9 H_U_9.out H_V_9.out hC Fo.out Fc.out) | go_values | go_skip | go_guarded | go_step | go_upon | go_back | skip)
end Go.Proofs.Ytldonmcbnhgbdaa
