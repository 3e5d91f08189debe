/- FnIntervals from its loops on. -/
import Derived.Test.YthifeabcobgbmaaFl
namespace Go.Proofs.Ythifeabcobgbmaa
open Go.RowKit
set_option linter.unusedVariables false
set_option maxHeartbeats 0
set_option maxRecDepth 20000
set_option linter.unusedSimpArgs false

theorem FnIv_18 {n1 d1 n2 d2 n3 d3 n4 d4 A1 A2 A3 A4 S1 S2 S3 S4 M1 M2 M3 M4 D1 D2 D3 D4 H1 H2 H3 H4 C1 C2 C3 C4 X1 X2 X3 X4 : Int} {oa os om od oh oc ox : Bool} {w W : World} {gI gK gA gS gM gD gH gC : Nat} {u0 u1 u2 u3 u4 u7 u10 u13 u14 u15 u18 u19 u22 u23 u26 u27 u30 u31 u32 u33 u34 u35 u36 u37 u38 u39 u40 u41 u42 u43 u44 u45 u46 u47 u48 u49 u50 u51 u52 u53 u54 u55 u56 u57 u58 u59 u60 u61 u62 u63 u64 u65 u66 u67 u68 u69 u70 u71 u72 u73 u74 u75 u76 u77 u78 u79 u80 u81 u82 u83 u84 u85 u86 u87 u88 u89 u90 u91 u92 u93 u94 u95 u96 u97 u98 u99 u100 u101 u102 u103 u104 u105 u106 u107 u108 u109 u110 u111 u112 u113 u114 u115 u116 u117 u118 u119 u120 u121 u122 u123 u124 u125 u126 u127 u128 u129 u130 u131 u132 u133 u134 u135 u136 u137 u138 u139 u140 u141 u142 u143 u144 u145 u146 u147 u148 u149 u150 u151 u152 u153 u154 u155 u156 u157 u158 u159 u160 u161 u162 u163 u164 u165 u166 u167 u168 u169 u170 u171 u172 u173 u174 u175 u176 u177 u178 u179 u180 u181 u182 u183 u184 u185 u186 u187 u188 u189 u190 u191 u192 u193 u194 u195 u196 u197 u198 u199 u200 u201 u202 u203 u204 u205 u206 u207 u208 u209 u210 u211 u212 u213 u214 u215 u216 u217 u218 u219 u220 u221 u222 u223 u224 u225 u226 u227 u228 u229 u230 u231 u232 u233 u234 u235 u236 u237 u238 u239 u240 u241 u242 u243 u244 u245 u246 u247 u248 u249 u250 u251 u252 u253 u254 u255 u256 u257 u258 u259 u260 u261 u262 u263 u264 u265 u266 u267 u268 u269 u270 u271 u272 u273 u274 u275 u276 u277 u278 u279 u280 u281 u282 u283 u284 u285 u286 u287 u288 u289 u290 u291 u292 u293 u294 u295 u296 u297 u298 u299 u300 u301 u302 u303 u304 u305 u306 u307 u308 u309 u310 u311 u312 u313 u314 u315 u316 u317 u318 u319 u320 u321 u322 u323 u324 u325 u326 u327 u328 u329 u330 u331 u332 u333 u334 u335 u336 u337 u338 u339 u340 u341 : Value}
    (hB : Below w.heap.size w W) (HI : W.heap[gI]? = some (.cells #[.int .i64 n1, .int .i64 d1, .int .i64 n2, .int .i64 d2] 26 (0, 0))) (HK : W.heap[gK]? = some (.cells #[.int .i64 n3, .int .i64 d3, .int .i64 n4, .int .i64 d4] 26 (0, 0))) (HAs : W.heap[gA]? = some (.cells #[.int .i64 A1, .int .i64 A2, .int .i64 A3, .int .i64 A4] 26 (0, 0))) (HSi : W.heap[gS]? = some (.cells #[.int .i64 S1, .int .i64 S2, .int .i64 S3, .int .i64 S4] 26 (0, 0))) (HMs : W.heap[gM]? = some (.cells #[.int .i64 M1, .int .i64 M2, .int .i64 M3, .int .i64 M4] 26 (0, 0))) (HDs : W.heap[gD]? = some (.cells #[.int .i64 D1, .int .i64 D2, .int .i64 D3, .int .i64 D4] 26 (0, 0))) (HHs : W.heap[gH]? = some (.cells #[.int .i64 H1, .int .i64 H2, .int .i64 H3, .int .i64 H4] 26 (0, 0))) (HCs : W.heap[gC]? = some (.cells #[.int .i64 C1, .int .i64 C2, .int .i64 C3, .int .i64 C4] 26 (0, 0)))
    (RX : Ret2 5 S1 S2 S3 S4 n3 d3 n4 d4 X1 X2 X3 X4 ox) (RY : Ret2 9 n3 d3 n4 d4 n1 d1 n2 d2 M1 M2 M3 M4 om)
    (Fs : (∀ x y u v, End n1 d1 n2 d2 x y → End n3 d3 n4 d4 u v → (oa && (twoF suF x y u v).2.2 && !(qiB A1 A2 A3 A4 (twoF suF x y u v).1 (twoF suF x y u v).2.1)) = false))
    (Fm : (∀ x y u v, End n1 d1 n2 d2 x y → End n3 d3 n4 d4 u v → (om && (twoF prF x y u v).2.2 && !(qiB M1 M2 M3 M4 (twoF prF x y u v).1 (twoF prF x y u v).2.1)) = false))
    (Fd : (∀ x y u v, End n1 d1 n2 d2 x y → End n3 d3 n4 d4 u v → (od && (twoF quF x y u v).2.2 && !(qiB D1 D2 D3 D4 (twoF quF x y u v).1 (twoF quF x y u v).2.1)) = false))
    (Fh : (oh = true → ∀ x y, End n1 d1 n2 d2 x y ∨ End n3 d3 n4 d4 x y → qiB H1 H2 H3 H4 x y = true))
    (Fc : (oc = true → qiB n1 d1 n2 d2 C1 C2 = true ∧ qiB n3 d3 n4 d4 C1 C2 = true ∧ qiB n1 d1 n2 d2 C3 C4 = true ∧ qiB n3 d3 n4 d4 C3 C4 = true))
    (Fb : (os = true → ox = true → qlB n1 d1 X1 X2 = false ∧ qlB X3 X4 n2 d2 = false))
    : Code.wp Try.prog (dropTo 18 (bodyOf Try.f3)) (bodyPost Try.prog Try.f3 fun e w' => e = .returned (.bool true) ∧ Below w.heap.size w w') { tmps := #[u0, u1, u2, u3, u4, .pointer (some ⟨gI, 0, none⟩), .pointer (some ⟨gK, 0, none⟩), u7, .bool oa, .pointer (some ⟨gA, 0, none⟩), u10, .pointer (some ⟨gS, 0, none⟩), .bool os, u13, u14, u15, .bool om, .pointer (some ⟨gM, 0, none⟩), u18, u19, .bool od, .pointer (some ⟨gD, 0, none⟩), u22, u23, .bool oh, .pointer (some ⟨gH, 0, none⟩), u26, u27, .bool oc, .pointer (some ⟨gC, 0, none⟩), u30, u31, u32, u33, u34, u35, u36, u37, u38, u39, u40, u41, u42, u43, u44, u45, u46, u47, u48, u49, u50, u51, u52, u53, u54, u55, u56, u57, u58, u59, u60, u61, u62, u63, u64, u65, u66, u67, u68, u69, u70, u71, u72, u73, u74, u75, u76, u77, u78, u79, u80, u81, u82, u83, u84, u85, u86, u87, u88, u89, u90, u91, u92, u93, u94, u95, u96, u97, u98, u99, u100, u101, u102, u103, u104, u105, u106, u107, u108, u109, u110, u111, u112, u113, u114, u115, u116, u117, u118, u119, u120, u121, u122, u123, u124, u125, u126, u127, u128, u129, u130, u131, u132, u133, u134, u135, u136, u137, u138, u139, u140, u141, u142, u143, u144, u145, u146, u147, u148, u149, u150, u151, u152, u153, u154, u155, u156, u157, u158, u159, u160, u161, u162, u163, u164, u165, u166, u167, u168, u169, u170, u171, u172, u173, u174, u175, u176, u177, u178, u179, u180, u181, u182, u183, u184, u185, u186, u187, u188, u189, u190, u191, u192, u193, u194, u195, u196, u197, u198, u199, u200, u201, u202, u203, u204, u205, u206, u207, u208, u209, u210, u211, u212, u213, u214, u215, u216, u217, u218, u219, u220, u221, u222, u223, u224, u225, u226, u227, u228, u229, u230, u231, u232, u233, u234, u235, u236, u237, u238, u239, u240, u241, u242, u243, u244, u245, u246, u247, u248, u249, u250, u251, u252, u253, u254, u255, u256, u257, u258, u259, u260, u261, u262, u263, u264, u265, u266, u267, u268, u269, u270, u271, u272, u273, u274, u275, u276, u277, u278, u279, u280, u281, u282, u283, u284, u285, u286, u287, u288, u289, u290, u291, u292, u293, u294, u295, u296, u297, u298, u299, u300, u301, u302, u303, u304, u305, u306, u307, u308, u309, u310, u311, u312, u313, u314, u315, u316, u317, u318, u319, u320, u321, u322, u323, u324, u325, u326, u327, u328, u329, u330, u331, u332, u333, u334, u335, u336, u337, u338, u339, u340, u341], defers := [] } W := by
  have TX := fun W : World => Lib.hid (RX W)
  have TY := fun W : World => Lib.hid (RY W)
  replace Fs := Lib.hid Fs
  replace Fm := Lib.hid Fm
  replace Fd := Lib.hid Fd
  replace Fh := Lib.hid Fh
  replace Fc := Lib.hid Fc
  replace Fb := Lib.hid Fb
  have tok35 : True := trivial
  have tok37 : True := trivial
  have tok39 : True := trivial
  have tok41 : True := trivial
  have tok43 : True := trivial
  have tok45 : True := trivial
  have tok47 : True := trivial
  have tok48 : True := trivial
  conv in dropTo _ _ => whnf
  dsimp only
  clear TX TY
  replace RX := Lib.hid RX
  replace RY := Lib.hid RY
  refine chk (fun W => Below w.heap.size w W ∧ W.heap[gI]? = some (.cells #[.int .i64 n1, .int .i64 d1, .int .i64 n2, .int .i64 d2] 26 (0, 0)) ∧ W.heap[gK]? = some (.cells #[.int .i64 n3, .int .i64 d3, .int .i64 n4, .int .i64 d4] 26 (0, 0)) ∧ W.heap[gA]? = some (.cells #[.int .i64 A1, .int .i64 A2, .int .i64 A3, .int .i64 A4] 26 (0, 0)) ∧ W.heap[gS]? = some (.cells #[.int .i64 S1, .int .i64 S2, .int .i64 S3, .int .i64 S4] 26 (0, 0)) ∧ W.heap[gM]? = some (.cells #[.int .i64 M1, .int .i64 M2, .int .i64 M3, .int .i64 M4] 26 (0, 0)) ∧ W.heap[gD]? = some (.cells #[.int .i64 D1, .int .i64 D2, .int .i64 D3, .int .i64 D4] 26 (0, 0)) ∧ W.heap[gH]? = some (.cells #[.int .i64 H1, .int .i64 H2, .int .i64 H3, .int .i64 H4] 26 (0, 0)) ∧ W.heap[gC]? = some (.cells #[.int .i64 C1, .int .i64 C2, .int .i64 C3, .int .i64 C4] 26 (0, 0))) (by refine ⟨?_, ?_, ?_, ?_, ?_, ?_, ?_, ?_, ?_⟩ <;> (repeat' first | (with_reducible first | assumption | (apply Ne.symm; assumption) | apply Nat.le_refl | apply Nat.le_add_right | apply zL | apply zRf | apply Wx.box | apply Wx.box4 | apply zWa | apply Wx.drew | apply zWn | apply bx_drew | apply bx_drewN | apply bx_set3 | apply bx_set2 | apply bx_set4 | apply bx_set1) | ((with_reducible apply bx_new); (focus (go_size; done))) | (with_reducible first | apply zOl | apply zFa | apply zDn | apply zDr | apply zAl | apply zSt | refine zVi (by assumption) ?_ ?_) | go_size | omega)) ?_
  rintro w28 ⟨hB28, H_I_28, H_K_28, H_As_28, H_Si_28, H_Ms_28, H_Ds_28, H_Hs_28, H_Cs_28⟩
  obtain ⟨k_I_28_0, k_I_28_1, k_I_28_2, k_I_28_3, f_I_28, l_I_28⟩ := bk4 H_I_28
  replace H_I_28 := Lib.hid H_I_28
  obtain ⟨k_K_28_0, k_K_28_1, k_K_28_2, k_K_28_3, f_K_28, l_K_28⟩ := bk4 H_K_28
  replace H_K_28 := Lib.hid H_K_28
  obtain ⟨k_As_28_0, k_As_28_1, k_As_28_2, k_As_28_3, f_As_28, l_As_28⟩ := bk4 H_As_28
  replace H_As_28 := Lib.hid H_As_28
  obtain ⟨k_Si_28_0, k_Si_28_1, k_Si_28_2, k_Si_28_3, f_Si_28, l_Si_28⟩ := bk4 H_Si_28
  replace H_Si_28 := Lib.hid H_Si_28
  obtain ⟨k_Ms_28_0, k_Ms_28_1, k_Ms_28_2, k_Ms_28_3, f_Ms_28, l_Ms_28⟩ := bk4 H_Ms_28
  replace H_Ms_28 := Lib.hid H_Ms_28
  obtain ⟨k_Ds_28_0, k_Ds_28_1, k_Ds_28_2, k_Ds_28_3, f_Ds_28, l_Ds_28⟩ := bk4 H_Ds_28
  replace H_Ds_28 := Lib.hid H_Ds_28
  obtain ⟨k_Hs_28_0, k_Hs_28_1, k_Hs_28_2, k_Hs_28_3, f_Hs_28, l_Hs_28⟩ := bk4 H_Hs_28
  replace H_Hs_28 := Lib.hid H_Hs_28
  obtain ⟨k_Cs_28_0, k_Cs_28_1, k_Cs_28_2, k_Cs_28_3, f_Cs_28, l_Cs_28⟩ := bk4 H_Cs_28
  replace H_Cs_28 := Lib.hid H_Cs_28
  clear hB HI HK HAs HSi HMs HDs HHs HCs
  go_upto_region 19 with fail
  have sz1 := hB28.size
  replace H_I_28 := H_I_28.out
  replace H_K_28 := H_K_28.out
  replace H_As_28 := H_As_28.out
  replace H_Si_28 := H_Si_28.out
  replace H_Ms_28 := H_Ms_28.out
  replace H_Ds_28 := H_Ds_28.out
  replace H_Hs_28 := H_Hs_28.out
  replace H_Cs_28 := H_Cs_28.out
  refine chk (fun W => Below w.heap.size w W ∧ W.heap[gI]? = some (.cells #[.int .i64 n1, .int .i64 d1, .int .i64 n2, .int .i64 d2] 26 (0, 0)) ∧ W.heap[gK]? = some (.cells #[.int .i64 n3, .int .i64 d3, .int .i64 n4, .int .i64 d4] 26 (0, 0)) ∧ W.heap[gA]? = some (.cells #[.int .i64 A1, .int .i64 A2, .int .i64 A3, .int .i64 A4] 26 (0, 0)) ∧ W.heap[gS]? = some (.cells #[.int .i64 S1, .int .i64 S2, .int .i64 S3, .int .i64 S4] 26 (0, 0)) ∧ W.heap[gM]? = some (.cells #[.int .i64 M1, .int .i64 M2, .int .i64 M3, .int .i64 M4] 26 (0, 0)) ∧ W.heap[gD]? = some (.cells #[.int .i64 D1, .int .i64 D2, .int .i64 D3, .int .i64 D4] 26 (0, 0)) ∧ W.heap[gH]? = some (.cells #[.int .i64 H1, .int .i64 H2, .int .i64 H3, .int .i64 H4] 26 (0, 0)) ∧ W.heap[gC]? = some (.cells #[.int .i64 C1, .int .i64 C2, .int .i64 C3, .int .i64 C4] 26 (0, 0)) ∧ W.heap[w28.heap.size]? = some (.cells #[.int .i64 n1, .int .i64 d1, .int .i64 n2, .int .i64 d2] 24 (0, 0))) (by refine ⟨?_, ?_, ?_, ?_, ?_, ?_, ?_, ?_, ?_, ?_⟩ <;> (repeat' first | (with_reducible first | assumption | (apply Ne.symm; assumption) | apply Nat.le_refl | apply Nat.le_add_right | apply zL | apply zRf | apply Wx.box | apply Wx.box4 | apply zWa | apply Wx.drew | apply zWn | apply bx_drew | apply bx_drewN | apply bx_set3 | apply bx_set2 | apply bx_set4 | apply bx_set1) | ((with_reducible apply bx_new); (focus (go_size; done))) | (with_reducible first | apply zOl | apply zFa | apply zDn | apply zDr | apply zAl | apply zSt | refine zVi (by assumption) ?_ ?_) | go_size | omega)) ?_
  clear k_I_28_0 k_I_28_1 k_I_28_2 k_I_28_3 f_I_28 H_I_28
  clear k_K_28_0 k_K_28_1 k_K_28_2 k_K_28_3 f_K_28 H_K_28
  clear k_As_28_0 k_As_28_1 k_As_28_2 k_As_28_3 f_As_28 H_As_28
  clear k_Si_28_0 k_Si_28_1 k_Si_28_2 k_Si_28_3 f_Si_28 H_Si_28
  clear k_Ms_28_0 k_Ms_28_1 k_Ms_28_2 k_Ms_28_3 f_Ms_28 H_Ms_28
  clear k_Ds_28_0 k_Ds_28_1 k_Ds_28_2 k_Ds_28_3 f_Ds_28 H_Ds_28
  clear k_Hs_28_0 k_Hs_28_1 k_Hs_28_2 k_Hs_28_3 f_Hs_28 H_Hs_28
  clear k_Cs_28_0 k_Cs_28_1 k_Cs_28_2 k_Cs_28_3 f_Cs_28 H_Cs_28
  clear hB28
  rintro w30 ⟨hB30, H_I_30, H_K_30, H_As_30, H_Si_30, H_Ms_30, H_Ds_30, H_Hs_30, H_Cs_30, H_XS_30⟩
  obtain ⟨k_I_30_0, k_I_30_1, k_I_30_2, k_I_30_3, f_I_30, l_I_30⟩ := bk4 H_I_30
  replace H_I_30 := Lib.hid H_I_30
  obtain ⟨k_K_30_0, k_K_30_1, k_K_30_2, k_K_30_3, f_K_30, l_K_30⟩ := bk4 H_K_30
  replace H_K_30 := Lib.hid H_K_30
  obtain ⟨k_As_30_0, k_As_30_1, k_As_30_2, k_As_30_3, f_As_30, l_As_30⟩ := bk4 H_As_30
  replace H_As_30 := Lib.hid H_As_30
  obtain ⟨k_Si_30_0, k_Si_30_1, k_Si_30_2, k_Si_30_3, f_Si_30, l_Si_30⟩ := bk4 H_Si_30
  replace H_Si_30 := Lib.hid H_Si_30
  obtain ⟨k_Ms_30_0, k_Ms_30_1, k_Ms_30_2, k_Ms_30_3, f_Ms_30, l_Ms_30⟩ := bk4 H_Ms_30
  replace H_Ms_30 := Lib.hid H_Ms_30
  obtain ⟨k_Ds_30_0, k_Ds_30_1, k_Ds_30_2, k_Ds_30_3, f_Ds_30, l_Ds_30⟩ := bk4 H_Ds_30
  replace H_Ds_30 := Lib.hid H_Ds_30
  obtain ⟨k_Hs_30_0, k_Hs_30_1, k_Hs_30_2, k_Hs_30_3, f_Hs_30, l_Hs_30⟩ := bk4 H_Hs_30
  replace H_Hs_30 := Lib.hid H_Hs_30
  obtain ⟨k_Cs_30_0, k_Cs_30_1, k_Cs_30_2, k_Cs_30_3, f_Cs_30, l_Cs_30⟩ := bk4 H_Cs_30
  replace H_Cs_30 := Lib.hid H_Cs_30
  obtain ⟨k_XS_30_0, k_XS_30_1, k_XS_30_2, k_XS_30_3, f_XS_30, l_XS_30⟩ := bk4 H_XS_30
  replace H_XS_30 := Lib.hid H_XS_30
  go_loopw [200] (fun iv wr => ((iv = .int .i64 0 ∨ iv = .int .i64 1) ∨ iv = .int .i64 2) ∧ Below w30.heap.size w30 wr) (fun iv _ => 2 - (intOf iv).toNat)
  case atStart => exact ⟨.inl (.inl rfl), Below.refl _ _⟩
  case round =>
    obtain ⟨hr, hb31⟩ := hrel
    rename World => w31
    have H_I_31 := (hb31.block (gI) (blk_lt' H_I_30.out)).trans H_I_30.out
    clear k_I_30_0 k_I_30_1 k_I_30_2 k_I_30_3 f_I_30 H_I_30
    obtain ⟨k_I_31_0, k_I_31_1, k_I_31_2, k_I_31_3, f_I_31, l_I_31⟩ := bk4 H_I_31
    replace H_I_31 := Lib.hid H_I_31
    have H_K_31 := (hb31.block (gK) (blk_lt' H_K_30.out)).trans H_K_30.out
    clear k_K_30_0 k_K_30_1 k_K_30_2 k_K_30_3 f_K_30 H_K_30
    obtain ⟨k_K_31_0, k_K_31_1, k_K_31_2, k_K_31_3, f_K_31, l_K_31⟩ := bk4 H_K_31
    replace H_K_31 := Lib.hid H_K_31
    have H_As_31 := (hb31.block (gA) (blk_lt' H_As_30.out)).trans H_As_30.out
    clear k_As_30_0 k_As_30_1 k_As_30_2 k_As_30_3 f_As_30 H_As_30
    obtain ⟨k_As_31_0, k_As_31_1, k_As_31_2, k_As_31_3, f_As_31, l_As_31⟩ := bk4 H_As_31
    replace H_As_31 := Lib.hid H_As_31
    have H_Si_31 := (hb31.block (gS) (blk_lt' H_Si_30.out)).trans H_Si_30.out
    clear k_Si_30_0 k_Si_30_1 k_Si_30_2 k_Si_30_3 f_Si_30 H_Si_30
    obtain ⟨k_Si_31_0, k_Si_31_1, k_Si_31_2, k_Si_31_3, f_Si_31, l_Si_31⟩ := bk4 H_Si_31
    replace H_Si_31 := Lib.hid H_Si_31
    have H_Ms_31 := (hb31.block (gM) (blk_lt' H_Ms_30.out)).trans H_Ms_30.out
    clear k_Ms_30_0 k_Ms_30_1 k_Ms_30_2 k_Ms_30_3 f_Ms_30 H_Ms_30
    obtain ⟨k_Ms_31_0, k_Ms_31_1, k_Ms_31_2, k_Ms_31_3, f_Ms_31, l_Ms_31⟩ := bk4 H_Ms_31
    replace H_Ms_31 := Lib.hid H_Ms_31
    have H_Ds_31 := (hb31.block (gD) (blk_lt' H_Ds_30.out)).trans H_Ds_30.out
    clear k_Ds_30_0 k_Ds_30_1 k_Ds_30_2 k_Ds_30_3 f_Ds_30 H_Ds_30
    obtain ⟨k_Ds_31_0, k_Ds_31_1, k_Ds_31_2, k_Ds_31_3, f_Ds_31, l_Ds_31⟩ := bk4 H_Ds_31
    replace H_Ds_31 := Lib.hid H_Ds_31
    have H_Hs_31 := (hb31.block (gH) (blk_lt' H_Hs_30.out)).trans H_Hs_30.out
    clear k_Hs_30_0 k_Hs_30_1 k_Hs_30_2 k_Hs_30_3 f_Hs_30 H_Hs_30
    obtain ⟨k_Hs_31_0, k_Hs_31_1, k_Hs_31_2, k_Hs_31_3, f_Hs_31, l_Hs_31⟩ := bk4 H_Hs_31
    replace H_Hs_31 := Lib.hid H_Hs_31
    have H_Cs_31 := (hb31.block (gC) (blk_lt' H_Cs_30.out)).trans H_Cs_30.out
    clear k_Cs_30_0 k_Cs_30_1 k_Cs_30_2 k_Cs_30_3 f_Cs_30 H_Cs_30
    obtain ⟨k_Cs_31_0, k_Cs_31_1, k_Cs_31_2, k_Cs_31_3, f_Cs_31, l_Cs_31⟩ := bk4 H_Cs_31
    replace H_Cs_31 := Lib.hid H_Cs_31
    have H_XS_31 := (hb31.block (w28.heap.size) (blk_lt' H_XS_30.out)).trans H_XS_30.out
    clear k_XS_30_0 k_XS_30_1 k_XS_30_2 k_XS_30_3 f_XS_30 H_XS_30
    obtain ⟨k_XS_31_0, k_XS_31_1, k_XS_31_2, k_XS_31_3, f_XS_31, l_XS_31⟩ := bk4 H_XS_31
    replace H_XS_31 := Lib.hid H_XS_31
    have hB31 : Below w.heap.size w w31 := below_via hb31 (by assumption) (by first | exact hB30.size | go_size)
    rcases hr with hr | rfl
    · go_upto_region 19 with fail
      go_cut [201] (fun s201 wx => s201 = .bool true ∧ w31 = wx)
      case first =>
        as_aux_lemma =>
          rcases hr with rfl | rfl
          · go_wp2_with fail
            go_meet
            exact ⟨rfl, rfl⟩
          · go_wp2_with fail
            go_meet
            exact ⟨rfl, rfl⟩
      case rest =>
        obtain ⟨rfl, rfl⟩ := hcut
        go_upto_region 20 with fail
        go_cut [32] (fun s32 wx => ∃ (g : Nat) (x y : Int), s32 = .pointer (some ⟨g, 0, none⟩) ∧ End n1 d1 n2 d2 x y ∧ w31.heap.size ≤ g ∧ wx.heap[g]? = some (.cells #[.int .i64 x, .int .i64 y] 24 (0, 0)) ∧ Below w31.heap.size w31 wx)
        case first =>
          as_aux_lemma =>
            rcases hr with rfl | rfl
            · go_wp2_with fail
              go_meet
              exact ⟨_, n1, d1, rfl, .inl ⟨rfl, rfl⟩, Nat.le_refl _, heap_alloc_new _ _, by repeat' first | (with_reducible first | apply zRf | assumption | apply zDn | apply zDr | apply zAl | apply zSt | refine zVi (by assumption) ?_ ?_) | go_size⟩
            · go_wp2_with fail
              go_meet
              exact ⟨_, n2, d2, rfl, .inr ⟨rfl, rfl⟩, Nat.le_refl _, heap_alloc_new _ _, by repeat' first | (with_reducible first | apply zRf | assumption | apply zDn | apply zDr | apply zAl | apply zSt | refine zVi (by assumption) ?_ ?_) | go_size⟩
        case rest =>
          obtain ⟨gx, x, y, rfl, hx, hgx, HX, hb32⟩ := hcut
          generalize wc = w32 at *
          have H_I_32 := (hb32.block (gI) (blk_lt' H_I_31.out)).trans H_I_31.out
          clear k_I_31_0 k_I_31_1 k_I_31_2 k_I_31_3 f_I_31 H_I_31
          obtain ⟨k_I_32_0, k_I_32_1, k_I_32_2, k_I_32_3, f_I_32, l_I_32⟩ := bk4 H_I_32
          replace H_I_32 := Lib.hid H_I_32
          have H_K_32 := (hb32.block (gK) (blk_lt' H_K_31.out)).trans H_K_31.out
          clear k_K_31_0 k_K_31_1 k_K_31_2 k_K_31_3 f_K_31 H_K_31
          obtain ⟨k_K_32_0, k_K_32_1, k_K_32_2, k_K_32_3, f_K_32, l_K_32⟩ := bk4 H_K_32
          replace H_K_32 := Lib.hid H_K_32
          have H_As_32 := (hb32.block (gA) (blk_lt' H_As_31.out)).trans H_As_31.out
          clear k_As_31_0 k_As_31_1 k_As_31_2 k_As_31_3 f_As_31 H_As_31
          obtain ⟨k_As_32_0, k_As_32_1, k_As_32_2, k_As_32_3, f_As_32, l_As_32⟩ := bk4 H_As_32
          replace H_As_32 := Lib.hid H_As_32
          have H_Si_32 := (hb32.block (gS) (blk_lt' H_Si_31.out)).trans H_Si_31.out
          clear k_Si_31_0 k_Si_31_1 k_Si_31_2 k_Si_31_3 f_Si_31 H_Si_31
          obtain ⟨k_Si_32_0, k_Si_32_1, k_Si_32_2, k_Si_32_3, f_Si_32, l_Si_32⟩ := bk4 H_Si_32
          replace H_Si_32 := Lib.hid H_Si_32
          have H_Ms_32 := (hb32.block (gM) (blk_lt' H_Ms_31.out)).trans H_Ms_31.out
          clear k_Ms_31_0 k_Ms_31_1 k_Ms_31_2 k_Ms_31_3 f_Ms_31 H_Ms_31
          obtain ⟨k_Ms_32_0, k_Ms_32_1, k_Ms_32_2, k_Ms_32_3, f_Ms_32, l_Ms_32⟩ := bk4 H_Ms_32
          replace H_Ms_32 := Lib.hid H_Ms_32
          have H_Ds_32 := (hb32.block (gD) (blk_lt' H_Ds_31.out)).trans H_Ds_31.out
          clear k_Ds_31_0 k_Ds_31_1 k_Ds_31_2 k_Ds_31_3 f_Ds_31 H_Ds_31
          obtain ⟨k_Ds_32_0, k_Ds_32_1, k_Ds_32_2, k_Ds_32_3, f_Ds_32, l_Ds_32⟩ := bk4 H_Ds_32
          replace H_Ds_32 := Lib.hid H_Ds_32
          have H_Hs_32 := (hb32.block (gH) (blk_lt' H_Hs_31.out)).trans H_Hs_31.out
          clear k_Hs_31_0 k_Hs_31_1 k_Hs_31_2 k_Hs_31_3 f_Hs_31 H_Hs_31
          obtain ⟨k_Hs_32_0, k_Hs_32_1, k_Hs_32_2, k_Hs_32_3, f_Hs_32, l_Hs_32⟩ := bk4 H_Hs_32
          replace H_Hs_32 := Lib.hid H_Hs_32
          have H_Cs_32 := (hb32.block (gC) (blk_lt' H_Cs_31.out)).trans H_Cs_31.out
          clear k_Cs_31_0 k_Cs_31_1 k_Cs_31_2 k_Cs_31_3 f_Cs_31 H_Cs_31
          obtain ⟨k_Cs_32_0, k_Cs_32_1, k_Cs_32_2, k_Cs_32_3, f_Cs_32, l_Cs_32⟩ := bk4 H_Cs_32
          replace H_Cs_32 := Lib.hid H_Cs_32
          have H_XS_32 := (hb32.block (w28.heap.size) (blk_lt' H_XS_31.out)).trans H_XS_31.out
          clear k_XS_31_0 k_XS_31_1 k_XS_31_2 k_XS_31_3 f_XS_31 H_XS_31
          obtain ⟨k_XS_32_0, k_XS_32_1, k_XS_32_2, k_XS_32_3, f_XS_32, l_XS_32⟩ := bk4 H_XS_32
          replace H_XS_32 := Lib.hid H_XS_32
          have hB32 : Below w.heap.size w w32 := below_via hb32 (by assumption) (by first | exact hB31.size | go_size)
          have HB32 := hb31.trans (hb32.mono hb31.size)
          go_upto_region 22 with fail
          have sz1 := hB32.size
          have sz2 := HB32.size

          replace H_I_32 := H_I_32.out
          replace H_K_32 := H_K_32.out
          replace H_As_32 := H_As_32.out
          replace H_Si_32 := H_Si_32.out
          replace H_Ms_32 := H_Ms_32.out
          replace H_Ds_32 := H_Ds_32.out
          replace H_Hs_32 := H_Hs_32.out
          replace H_Cs_32 := H_Cs_32.out
          replace H_XS_32 := H_XS_32.out
          refine chk (fun W => Below w.heap.size w W ∧ W.heap[gI]? = some (.cells #[.int .i64 n1, .int .i64 d1, .int .i64 n2, .int .i64 d2] 26 (0, 0)) ∧ W.heap[gK]? = some (.cells #[.int .i64 n3, .int .i64 d3, .int .i64 n4, .int .i64 d4] 26 (0, 0)) ∧ W.heap[gA]? = some (.cells #[.int .i64 A1, .int .i64 A2, .int .i64 A3, .int .i64 A4] 26 (0, 0)) ∧ W.heap[gS]? = some (.cells #[.int .i64 S1, .int .i64 S2, .int .i64 S3, .int .i64 S4] 26 (0, 0)) ∧ W.heap[gM]? = some (.cells #[.int .i64 M1, .int .i64 M2, .int .i64 M3, .int .i64 M4] 26 (0, 0)) ∧ W.heap[gD]? = some (.cells #[.int .i64 D1, .int .i64 D2, .int .i64 D3, .int .i64 D4] 26 (0, 0)) ∧ W.heap[gH]? = some (.cells #[.int .i64 H1, .int .i64 H2, .int .i64 H3, .int .i64 H4] 26 (0, 0)) ∧ W.heap[gC]? = some (.cells #[.int .i64 C1, .int .i64 C2, .int .i64 C3, .int .i64 C4] 26 (0, 0)) ∧ W.heap[w28.heap.size]? = some (.cells #[.int .i64 n1, .int .i64 d1, .int .i64 n2, .int .i64 d2] 24 (0, 0)) ∧ W.heap[gx]? = some (.cells #[.int .i64 x, .int .i64 y] 24 (0, 0)) ∧ W.heap[w32.heap.size]? = some (.cells #[.int .i64 n3, .int .i64 d3, .int .i64 n4, .int .i64 d4] 24 (0, 0)) ∧ Below w30.heap.size w30 W) (by refine ⟨?_, ?_, ?_, ?_, ?_, ?_, ?_, ?_, ?_, ?_, ?_, ?_, ?_⟩ <;> (repeat' first | (with_reducible first | assumption | (apply Ne.symm; assumption) | apply Nat.le_refl | apply Nat.le_add_right | apply zL | apply zRf | apply Wx.box | apply Wx.box4 | apply zWa | apply Wx.drew | apply zWn | apply bx_drew | apply bx_drewN | apply bx_set3 | apply bx_set2 | apply bx_set4 | apply bx_set1) | ((with_reducible apply bx_new); (focus (go_size; done))) | (with_reducible first | apply zOl | apply zFa | apply zDn | apply zDr | apply zAl | apply zSt | refine zVi (by assumption) ?_ ?_) | go_size | omega)) ?_
          clear k_I_32_0 k_I_32_1 k_I_32_2 k_I_32_3 f_I_32 H_I_32
          clear k_K_32_0 k_K_32_1 k_K_32_2 k_K_32_3 f_K_32 H_K_32
          clear k_As_32_0 k_As_32_1 k_As_32_2 k_As_32_3 f_As_32 H_As_32
          clear k_Si_32_0 k_Si_32_1 k_Si_32_2 k_Si_32_3 f_Si_32 H_Si_32
          clear k_Ms_32_0 k_Ms_32_1 k_Ms_32_2 k_Ms_32_3 f_Ms_32 H_Ms_32
          clear k_Ds_32_0 k_Ds_32_1 k_Ds_32_2 k_Ds_32_3 f_Ds_32 H_Ds_32
          clear k_Hs_32_0 k_Hs_32_1 k_Hs_32_2 k_Hs_32_3 f_Hs_32 H_Hs_32
          clear k_Cs_32_0 k_Cs_32_1 k_Cs_32_2 k_Cs_32_3 f_Cs_32 H_Cs_32
          clear k_XS_32_0 k_XS_32_1 k_XS_32_2 k_XS_32_3 f_XS_32 H_XS_32
          clear hB32
          rintro w33 ⟨hB33, H_I_33, H_K_33, H_As_33, H_Si_33, H_Ms_33, H_Ds_33, H_Hs_33, H_Cs_33, H_XS_33, H_X_33, H_YS_33, HB33⟩
          obtain ⟨k_I_33_0, k_I_33_1, k_I_33_2, k_I_33_3, f_I_33, l_I_33⟩ := bk4 H_I_33
          replace H_I_33 := Lib.hid H_I_33
          obtain ⟨k_K_33_0, k_K_33_1, k_K_33_2, k_K_33_3, f_K_33, l_K_33⟩ := bk4 H_K_33
          replace H_K_33 := Lib.hid H_K_33
          obtain ⟨k_As_33_0, k_As_33_1, k_As_33_2, k_As_33_3, f_As_33, l_As_33⟩ := bk4 H_As_33
          replace H_As_33 := Lib.hid H_As_33
          obtain ⟨k_Si_33_0, k_Si_33_1, k_Si_33_2, k_Si_33_3, f_Si_33, l_Si_33⟩ := bk4 H_Si_33
          replace H_Si_33 := Lib.hid H_Si_33
          obtain ⟨k_Ms_33_0, k_Ms_33_1, k_Ms_33_2, k_Ms_33_3, f_Ms_33, l_Ms_33⟩ := bk4 H_Ms_33
          replace H_Ms_33 := Lib.hid H_Ms_33
          obtain ⟨k_Ds_33_0, k_Ds_33_1, k_Ds_33_2, k_Ds_33_3, f_Ds_33, l_Ds_33⟩ := bk4 H_Ds_33
          replace H_Ds_33 := Lib.hid H_Ds_33
          obtain ⟨k_Hs_33_0, k_Hs_33_1, k_Hs_33_2, k_Hs_33_3, f_Hs_33, l_Hs_33⟩ := bk4 H_Hs_33
          replace H_Hs_33 := Lib.hid H_Hs_33
          obtain ⟨k_Cs_33_0, k_Cs_33_1, k_Cs_33_2, k_Cs_33_3, f_Cs_33, l_Cs_33⟩ := bk4 H_Cs_33
          replace H_Cs_33 := Lib.hid H_Cs_33
          obtain ⟨k_XS_33_0, k_XS_33_1, k_XS_33_2, k_XS_33_3, f_XS_33, l_XS_33⟩ := bk4 H_XS_33
          replace H_XS_33 := Lib.hid H_XS_33
          obtain ⟨k_X_33_0, k_X_33_1, f_X_33, l_X_33⟩ := bk2 H_X_33
          replace H_X_33 := Lib.hid H_X_33
          obtain ⟨k_YS_33_0, k_YS_33_1, k_YS_33_2, k_YS_33_3, f_YS_33, l_YS_33⟩ := bk4 H_YS_33
          replace H_YS_33 := Lib.hid H_YS_33
          go_loopw [210] (fun jv wr => ((jv = .int .i64 0 ∨ jv = .int .i64 1) ∨ jv = .int .i64 2) ∧ Below w33.heap.size w33 wr) (fun jv _ => 2 - (intOf jv).toNat)
          case atStart => exact ⟨.inl (.inl rfl), Below.refl _ _⟩
          case round =>
            obtain ⟨hr2, hb34⟩ := hrel
            rename World => w34
            have H_I_34 := (hb34.block (gI) (blk_lt' H_I_33.out)).trans H_I_33.out
            clear k_I_33_0 k_I_33_1 k_I_33_2 k_I_33_3 f_I_33 H_I_33
            obtain ⟨k_I_34_0, k_I_34_1, k_I_34_2, k_I_34_3, f_I_34, l_I_34⟩ := bk4 H_I_34
            replace H_I_34 := Lib.hid H_I_34
            have H_K_34 := (hb34.block (gK) (blk_lt' H_K_33.out)).trans H_K_33.out
            clear k_K_33_0 k_K_33_1 k_K_33_2 k_K_33_3 f_K_33 H_K_33
            obtain ⟨k_K_34_0, k_K_34_1, k_K_34_2, k_K_34_3, f_K_34, l_K_34⟩ := bk4 H_K_34
            replace H_K_34 := Lib.hid H_K_34
            have H_As_34 := (hb34.block (gA) (blk_lt' H_As_33.out)).trans H_As_33.out
            clear k_As_33_0 k_As_33_1 k_As_33_2 k_As_33_3 f_As_33 H_As_33
            obtain ⟨k_As_34_0, k_As_34_1, k_As_34_2, k_As_34_3, f_As_34, l_As_34⟩ := bk4 H_As_34
            replace H_As_34 := Lib.hid H_As_34
            have H_Si_34 := (hb34.block (gS) (blk_lt' H_Si_33.out)).trans H_Si_33.out
            clear k_Si_33_0 k_Si_33_1 k_Si_33_2 k_Si_33_3 f_Si_33 H_Si_33
            obtain ⟨k_Si_34_0, k_Si_34_1, k_Si_34_2, k_Si_34_3, f_Si_34, l_Si_34⟩ := bk4 H_Si_34
            replace H_Si_34 := Lib.hid H_Si_34
            have H_Ms_34 := (hb34.block (gM) (blk_lt' H_Ms_33.out)).trans H_Ms_33.out
            clear k_Ms_33_0 k_Ms_33_1 k_Ms_33_2 k_Ms_33_3 f_Ms_33 H_Ms_33
            obtain ⟨k_Ms_34_0, k_Ms_34_1, k_Ms_34_2, k_Ms_34_3, f_Ms_34, l_Ms_34⟩ := bk4 H_Ms_34
            replace H_Ms_34 := Lib.hid H_Ms_34
            have H_Ds_34 := (hb34.block (gD) (blk_lt' H_Ds_33.out)).trans H_Ds_33.out
            clear k_Ds_33_0 k_Ds_33_1 k_Ds_33_2 k_Ds_33_3 f_Ds_33 H_Ds_33
            obtain ⟨k_Ds_34_0, k_Ds_34_1, k_Ds_34_2, k_Ds_34_3, f_Ds_34, l_Ds_34⟩ := bk4 H_Ds_34
            replace H_Ds_34 := Lib.hid H_Ds_34
            have H_Hs_34 := (hb34.block (gH) (blk_lt' H_Hs_33.out)).trans H_Hs_33.out
            clear k_Hs_33_0 k_Hs_33_1 k_Hs_33_2 k_Hs_33_3 f_Hs_33 H_Hs_33
            obtain ⟨k_Hs_34_0, k_Hs_34_1, k_Hs_34_2, k_Hs_34_3, f_Hs_34, l_Hs_34⟩ := bk4 H_Hs_34
            replace H_Hs_34 := Lib.hid H_Hs_34
            have H_Cs_34 := (hb34.block (gC) (blk_lt' H_Cs_33.out)).trans H_Cs_33.out
            clear k_Cs_33_0 k_Cs_33_1 k_Cs_33_2 k_Cs_33_3 f_Cs_33 H_Cs_33
            obtain ⟨k_Cs_34_0, k_Cs_34_1, k_Cs_34_2, k_Cs_34_3, f_Cs_34, l_Cs_34⟩ := bk4 H_Cs_34
            replace H_Cs_34 := Lib.hid H_Cs_34
            have H_XS_34 := (hb34.block (w28.heap.size) (blk_lt' H_XS_33.out)).trans H_XS_33.out
            clear k_XS_33_0 k_XS_33_1 k_XS_33_2 k_XS_33_3 f_XS_33 H_XS_33
            obtain ⟨k_XS_34_0, k_XS_34_1, k_XS_34_2, k_XS_34_3, f_XS_34, l_XS_34⟩ := bk4 H_XS_34
            replace H_XS_34 := Lib.hid H_XS_34
            have H_X_34 := (hb34.block (gx) (blk_lt' H_X_33.out)).trans H_X_33.out
            clear k_X_33_0 k_X_33_1 f_X_33 H_X_33
            obtain ⟨k_X_34_0, k_X_34_1, f_X_34, l_X_34⟩ := bk2 H_X_34
            replace H_X_34 := Lib.hid H_X_34
            have H_YS_34 := (hb34.block (w32.heap.size) (blk_lt' H_YS_33.out)).trans H_YS_33.out
            clear k_YS_33_0 k_YS_33_1 k_YS_33_2 k_YS_33_3 f_YS_33 H_YS_33
            obtain ⟨k_YS_34_0, k_YS_34_1, k_YS_34_2, k_YS_34_3, f_YS_34, l_YS_34⟩ := bk4 H_YS_34
            replace H_YS_34 := Lib.hid H_YS_34
            have hB34 : Below w.heap.size w w34 := below_via hb34 (by assumption) (by first | exact hB33.size | go_size)
            rcases hr2 with hr2 | rfl
            · go_upto_region 22 with fail
              go_cut [211] (fun s211 wx => s211 = .bool true ∧ w34 = wx)
              case first =>
                as_aux_lemma =>
                  rcases hr2 with rfl | rfl
                  · go_wp2_with fail
                    go_meet
                    exact ⟨rfl, rfl⟩
                  · go_wp2_with fail
                    go_meet
                    exact ⟨rfl, rfl⟩
              case rest =>
                obtain ⟨rfl, rfl⟩ := hcut
                go_upto_region 23 with fail
                go_cut [34] (fun s34 wx => ∃ (g : Nat) (u v : Int), s34 = .pointer (some ⟨g, 0, none⟩) ∧ End n3 d3 n4 d4 u v ∧ w34.heap.size ≤ g ∧ wx.heap[g]? = some (.cells #[.int .i64 u, .int .i64 v] 24 (0, 0)) ∧ Below w34.heap.size w34 wx)
                case first =>
                  as_aux_lemma =>
                    rcases hr2 with rfl | rfl
                    · go_wp2_with fail
                      go_meet
                      exact ⟨_, n3, d3, rfl, .inl ⟨rfl, rfl⟩, Nat.le_refl _, heap_alloc_new _ _, by repeat' first | (with_reducible first | apply zRf | assumption | apply zDn | apply zDr | apply zAl | apply zSt | refine zVi (by assumption) ?_ ?_) | go_size⟩
                    · go_wp2_with fail
                      go_meet
                      exact ⟨_, n4, d4, rfl, .inr ⟨rfl, rfl⟩, Nat.le_refl _, heap_alloc_new _ _, by repeat' first | (with_reducible first | apply zRf | assumption | apply zDn | apply zDr | apply zAl | apply zSt | refine zVi (by assumption) ?_ ?_) | go_size⟩
                case rest =>
                  obtain ⟨gu, u, v, rfl, hy, hgu, HU, hb70⟩ := hcut
                  generalize wc = w70 at *
                  have H_I_70 := (hb70.block (gI) (blk_lt' H_I_34.out)).trans H_I_34.out
                  clear k_I_34_0 k_I_34_1 k_I_34_2 k_I_34_3 f_I_34 H_I_34
                  obtain ⟨k_I_70_0, k_I_70_1, k_I_70_2, k_I_70_3, f_I_70, l_I_70⟩ := bk4 H_I_70
                  replace H_I_70 := Lib.hid H_I_70
                  have H_K_70 := (hb70.block (gK) (blk_lt' H_K_34.out)).trans H_K_34.out
                  clear k_K_34_0 k_K_34_1 k_K_34_2 k_K_34_3 f_K_34 H_K_34
                  obtain ⟨k_K_70_0, k_K_70_1, k_K_70_2, k_K_70_3, f_K_70, l_K_70⟩ := bk4 H_K_70
                  replace H_K_70 := Lib.hid H_K_70
                  have H_As_70 := (hb70.block (gA) (blk_lt' H_As_34.out)).trans H_As_34.out
                  clear k_As_34_0 k_As_34_1 k_As_34_2 k_As_34_3 f_As_34 H_As_34
                  obtain ⟨k_As_70_0, k_As_70_1, k_As_70_2, k_As_70_3, f_As_70, l_As_70⟩ := bk4 H_As_70
                  replace H_As_70 := Lib.hid H_As_70
                  have H_Si_70 := (hb70.block (gS) (blk_lt' H_Si_34.out)).trans H_Si_34.out
                  clear k_Si_34_0 k_Si_34_1 k_Si_34_2 k_Si_34_3 f_Si_34 H_Si_34
                  obtain ⟨k_Si_70_0, k_Si_70_1, k_Si_70_2, k_Si_70_3, f_Si_70, l_Si_70⟩ := bk4 H_Si_70
                  replace H_Si_70 := Lib.hid H_Si_70
                  have H_Ms_70 := (hb70.block (gM) (blk_lt' H_Ms_34.out)).trans H_Ms_34.out
                  clear k_Ms_34_0 k_Ms_34_1 k_Ms_34_2 k_Ms_34_3 f_Ms_34 H_Ms_34
                  obtain ⟨k_Ms_70_0, k_Ms_70_1, k_Ms_70_2, k_Ms_70_3, f_Ms_70, l_Ms_70⟩ := bk4 H_Ms_70
                  replace H_Ms_70 := Lib.hid H_Ms_70
                  have H_Ds_70 := (hb70.block (gD) (blk_lt' H_Ds_34.out)).trans H_Ds_34.out
                  clear k_Ds_34_0 k_Ds_34_1 k_Ds_34_2 k_Ds_34_3 f_Ds_34 H_Ds_34
                  obtain ⟨k_Ds_70_0, k_Ds_70_1, k_Ds_70_2, k_Ds_70_3, f_Ds_70, l_Ds_70⟩ := bk4 H_Ds_70
                  replace H_Ds_70 := Lib.hid H_Ds_70
                  have H_Hs_70 := (hb70.block (gH) (blk_lt' H_Hs_34.out)).trans H_Hs_34.out
                  clear k_Hs_34_0 k_Hs_34_1 k_Hs_34_2 k_Hs_34_3 f_Hs_34 H_Hs_34
                  obtain ⟨k_Hs_70_0, k_Hs_70_1, k_Hs_70_2, k_Hs_70_3, f_Hs_70, l_Hs_70⟩ := bk4 H_Hs_70
                  replace H_Hs_70 := Lib.hid H_Hs_70
                  have H_Cs_70 := (hb70.block (gC) (blk_lt' H_Cs_34.out)).trans H_Cs_34.out
                  clear k_Cs_34_0 k_Cs_34_1 k_Cs_34_2 k_Cs_34_3 f_Cs_34 H_Cs_34
                  obtain ⟨k_Cs_70_0, k_Cs_70_1, k_Cs_70_2, k_Cs_70_3, f_Cs_70, l_Cs_70⟩ := bk4 H_Cs_70
                  replace H_Cs_70 := Lib.hid H_Cs_70
                  have H_XS_70 := (hb70.block (w28.heap.size) (blk_lt' H_XS_34.out)).trans H_XS_34.out
                  clear k_XS_34_0 k_XS_34_1 k_XS_34_2 k_XS_34_3 f_XS_34 H_XS_34
                  obtain ⟨k_XS_70_0, k_XS_70_1, k_XS_70_2, k_XS_70_3, f_XS_70, l_XS_70⟩ := bk4 H_XS_70
                  replace H_XS_70 := Lib.hid H_XS_70
                  have H_X_70 := (hb70.block (gx) (blk_lt' H_X_34.out)).trans H_X_34.out
                  clear k_X_34_0 k_X_34_1 f_X_34 H_X_34
                  obtain ⟨k_X_70_0, k_X_70_1, f_X_70, l_X_70⟩ := bk2 H_X_70
                  replace H_X_70 := Lib.hid H_X_70
                  have H_YS_70 := (hb70.block (w32.heap.size) (blk_lt' H_YS_34.out)).trans H_YS_34.out
                  clear k_YS_34_0 k_YS_34_1 k_YS_34_2 k_YS_34_3 f_YS_34 H_YS_34
                  obtain ⟨k_YS_70_0, k_YS_70_1, k_YS_70_2, k_YS_70_3, f_YS_70, l_YS_70⟩ := bk4 H_YS_70
                  replace H_YS_70 := Lib.hid H_YS_70
                  have hB70 : Below w.heap.size w w70 := below_via hb70 (by assumption) (by first | exact hB34.size | go_size)
                  have HB70 := hb34.trans (hb70.mono hb34.size)
                  go_upto_region 24 with fail
                  have sz1 := hB70.size
                  have sz2 := HB70.size
                  replace H_I_70 := H_I_70.out
                  replace H_K_70 := H_K_70.out
                  replace H_As_70 := H_As_70.out
                  replace H_Si_70 := H_Si_70.out
                  replace H_Ms_70 := H_Ms_70.out
                  replace H_Ds_70 := H_Ds_70.out
                  replace H_Hs_70 := H_Hs_70.out
                  replace H_Cs_70 := H_Cs_70.out
                  replace H_XS_70 := H_XS_70.out
                  replace H_X_70 := H_X_70.out
                  replace H_YS_70 := H_YS_70.out
                  refine chk (fun W => Below w.heap.size w W ∧ W.heap[gI]? = some (.cells #[.int .i64 n1, .int .i64 d1, .int .i64 n2, .int .i64 d2] 26 (0, 0)) ∧ W.heap[gK]? = some (.cells #[.int .i64 n3, .int .i64 d3, .int .i64 n4, .int .i64 d4] 26 (0, 0)) ∧ W.heap[gA]? = some (.cells #[.int .i64 A1, .int .i64 A2, .int .i64 A3, .int .i64 A4] 26 (0, 0)) ∧ W.heap[gS]? = some (.cells #[.int .i64 S1, .int .i64 S2, .int .i64 S3, .int .i64 S4] 26 (0, 0)) ∧ W.heap[gM]? = some (.cells #[.int .i64 M1, .int .i64 M2, .int .i64 M3, .int .i64 M4] 26 (0, 0)) ∧ W.heap[gD]? = some (.cells #[.int .i64 D1, .int .i64 D2, .int .i64 D3, .int .i64 D4] 26 (0, 0)) ∧ W.heap[gH]? = some (.cells #[.int .i64 H1, .int .i64 H2, .int .i64 H3, .int .i64 H4] 26 (0, 0)) ∧ W.heap[gC]? = some (.cells #[.int .i64 C1, .int .i64 C2, .int .i64 C3, .int .i64 C4] 26 (0, 0)) ∧ W.heap[w28.heap.size]? = some (.cells #[.int .i64 n1, .int .i64 d1, .int .i64 n2, .int .i64 d2] 24 (0, 0)) ∧ W.heap[gx]? = some (.cells #[.int .i64 x, .int .i64 y] 24 (0, 0)) ∧ W.heap[w32.heap.size]? = some (.cells #[.int .i64 n3, .int .i64 d3, .int .i64 n4, .int .i64 d4] 24 (0, 0)) ∧ W.heap[gu]? = some (.cells #[.int .i64 u, .int .i64 v] 24 (0, 0)) ∧ Below w33.heap.size w33 W) (by refine ⟨?_, ?_, ?_, ?_, ?_, ?_, ?_, ?_, ?_, ?_, ?_, ?_, ?_, ?_⟩ <;> (repeat' first | (with_reducible first | assumption | (apply Ne.symm; assumption) | apply Nat.le_refl | apply Nat.le_add_right | apply zL | apply zRf | apply Wx.box | apply Wx.box4 | apply zWa | apply Wx.drew | apply zWn | apply bx_drew | apply bx_drewN | apply bx_set3 | apply bx_set2 | apply bx_set4 | apply bx_set1) | ((with_reducible apply bx_new); (focus (go_size; done))) | (with_reducible first | apply zOl | apply zFa | apply zDn | apply zDr | apply zAl | apply zSt | refine zVi (by assumption) ?_ ?_) | go_size | omega)) ?_
                  clear k_I_70_0 k_I_70_1 k_I_70_2 k_I_70_3 f_I_70 H_I_70
                  clear k_K_70_0 k_K_70_1 k_K_70_2 k_K_70_3 f_K_70 H_K_70
                  clear k_As_70_0 k_As_70_1 k_As_70_2 k_As_70_3 f_As_70 H_As_70
                  clear k_Si_70_0 k_Si_70_1 k_Si_70_2 k_Si_70_3 f_Si_70 H_Si_70
                  clear k_Ms_70_0 k_Ms_70_1 k_Ms_70_2 k_Ms_70_3 f_Ms_70 H_Ms_70
                  clear k_Ds_70_0 k_Ds_70_1 k_Ds_70_2 k_Ds_70_3 f_Ds_70 H_Ds_70
                  clear k_Hs_70_0 k_Hs_70_1 k_Hs_70_2 k_Hs_70_3 f_Hs_70 H_Hs_70
                  clear k_Cs_70_0 k_Cs_70_1 k_Cs_70_2 k_Cs_70_3 f_Cs_70 H_Cs_70
                  clear k_XS_70_0 k_XS_70_1 k_XS_70_2 k_XS_70_3 f_XS_70 H_XS_70
                  clear k_X_70_0 k_X_70_1 f_X_70 H_X_70
                  clear k_YS_70_0 k_YS_70_1 k_YS_70_2 k_YS_70_3 f_YS_70 H_YS_70
                  clear hB70
                  rintro w71 ⟨hB71, H_I_71, H_K_71, H_As_71, H_Si_71, H_Ms_71, H_Ds_71, H_Hs_71, H_Cs_71, H_XS_71, H_X_71, H_YS_71, H_U_71, HB71⟩
                  obtain ⟨k_I_71_0, k_I_71_1, k_I_71_2, k_I_71_3, f_I_71, l_I_71⟩ := bk4 H_I_71
                  replace H_I_71 := Lib.hid H_I_71
                  obtain ⟨k_K_71_0, k_K_71_1, k_K_71_2, k_K_71_3, f_K_71, l_K_71⟩ := bk4 H_K_71
                  replace H_K_71 := Lib.hid H_K_71
                  obtain ⟨k_As_71_0, k_As_71_1, k_As_71_2, k_As_71_3, f_As_71, l_As_71⟩ := bk4 H_As_71
                  replace H_As_71 := Lib.hid H_As_71
                  obtain ⟨k_Si_71_0, k_Si_71_1, k_Si_71_2, k_Si_71_3, f_Si_71, l_Si_71⟩ := bk4 H_Si_71
                  replace H_Si_71 := Lib.hid H_Si_71
                  obtain ⟨k_Ms_71_0, k_Ms_71_1, k_Ms_71_2, k_Ms_71_3, f_Ms_71, l_Ms_71⟩ := bk4 H_Ms_71
                  replace H_Ms_71 := Lib.hid H_Ms_71
                  obtain ⟨k_Ds_71_0, k_Ds_71_1, k_Ds_71_2, k_Ds_71_3, f_Ds_71, l_Ds_71⟩ := bk4 H_Ds_71
                  replace H_Ds_71 := Lib.hid H_Ds_71
                  obtain ⟨k_Hs_71_0, k_Hs_71_1, k_Hs_71_2, k_Hs_71_3, f_Hs_71, l_Hs_71⟩ := bk4 H_Hs_71
                  replace H_Hs_71 := Lib.hid H_Hs_71
                  obtain ⟨k_Cs_71_0, k_Cs_71_1, k_Cs_71_2, k_Cs_71_3, f_Cs_71, l_Cs_71⟩ := bk4 H_Cs_71
                  replace H_Cs_71 := Lib.hid H_Cs_71
                  obtain ⟨k_XS_71_0, k_XS_71_1, k_XS_71_2, k_XS_71_3, f_XS_71, l_XS_71⟩ := bk4 H_XS_71
                  replace H_XS_71 := Lib.hid H_XS_71
                  obtain ⟨k_X_71_0, k_X_71_1, f_X_71, l_X_71⟩ := bk2 H_X_71
                  replace H_X_71 := Lib.hid H_X_71
                  obtain ⟨k_YS_71_0, k_YS_71_1, k_YS_71_2, k_YS_71_3, f_YS_71, l_YS_71⟩ := bk4 H_YS_71
                  replace H_YS_71 := Lib.hid H_YS_71
                  obtain ⟨k_U_71_0, k_U_71_1, f_U_71, l_U_71⟩ := bk2 H_U_71
                  replace H_U_71 := Lib.hid H_U_71
                  clear hb70 HB70 HU
                  have TS := fun W : World => Lib.hid (sSumOf_any x y u v W)
                  have FqS := Fs.out x y u v hx hy
                  have TSq := fun W : World => Lib.hid (qIn_any A1 A2 A3 A4 (twoF suF x y u v).1 (twoF suF x y u v).2.1 W)
                  generalize qiB A1 A2 A3 A4 (twoF suF x y u v).1 (twoF suF x y u v).2.1 = bq at TSq FqS
                  generalize (twoF suF x y u v).1 = f1 at *
                  generalize (twoF suF x y u v).2.1 = f2 at *
                  generalize (twoF suF x y u v).2.2 = fo at *
                  go_upto_region 25 with (first | (have _t := tok35; go_at_call 18; (with_reducible refine ((TS _).out).mono ?_); rintro e w35 ⟨rfl, hb35⟩; clear tok35 _t; have hz35 := hb35.size; (try simp only [World.size_alloc, World.size_setCell, World.size_drew, World.size_drewN'] at hz35)))
                  have H_I_35 := (hb35.block (gI) (blk_lt' H_I_71.out)).trans H_I_71.out
                  clear k_I_71_0 k_I_71_1 k_I_71_2 k_I_71_3 f_I_71 H_I_71
                  obtain ⟨k_I_35_0, k_I_35_1, k_I_35_2, k_I_35_3, f_I_35, l_I_35⟩ := bk4 H_I_35
                  replace H_I_35 := Lib.hid H_I_35
                  have H_K_35 := (hb35.block (gK) (blk_lt' H_K_71.out)).trans H_K_71.out
                  clear k_K_71_0 k_K_71_1 k_K_71_2 k_K_71_3 f_K_71 H_K_71
                  obtain ⟨k_K_35_0, k_K_35_1, k_K_35_2, k_K_35_3, f_K_35, l_K_35⟩ := bk4 H_K_35
                  replace H_K_35 := Lib.hid H_K_35
                  have H_As_35 := (hb35.block (gA) (blk_lt' H_As_71.out)).trans H_As_71.out
                  clear k_As_71_0 k_As_71_1 k_As_71_2 k_As_71_3 f_As_71 H_As_71
                  obtain ⟨k_As_35_0, k_As_35_1, k_As_35_2, k_As_35_3, f_As_35, l_As_35⟩ := bk4 H_As_35
                  replace H_As_35 := Lib.hid H_As_35
                  have H_Si_35 := (hb35.block (gS) (blk_lt' H_Si_71.out)).trans H_Si_71.out
                  clear k_Si_71_0 k_Si_71_1 k_Si_71_2 k_Si_71_3 f_Si_71 H_Si_71
                  obtain ⟨k_Si_35_0, k_Si_35_1, k_Si_35_2, k_Si_35_3, f_Si_35, l_Si_35⟩ := bk4 H_Si_35
                  replace H_Si_35 := Lib.hid H_Si_35
                  have H_Ms_35 := (hb35.block (gM) (blk_lt' H_Ms_71.out)).trans H_Ms_71.out
                  clear k_Ms_71_0 k_Ms_71_1 k_Ms_71_2 k_Ms_71_3 f_Ms_71 H_Ms_71
                  obtain ⟨k_Ms_35_0, k_Ms_35_1, k_Ms_35_2, k_Ms_35_3, f_Ms_35, l_Ms_35⟩ := bk4 H_Ms_35
                  replace H_Ms_35 := Lib.hid H_Ms_35
                  have H_Ds_35 := (hb35.block (gD) (blk_lt' H_Ds_71.out)).trans H_Ds_71.out
                  clear k_Ds_71_0 k_Ds_71_1 k_Ds_71_2 k_Ds_71_3 f_Ds_71 H_Ds_71
                  obtain ⟨k_Ds_35_0, k_Ds_35_1, k_Ds_35_2, k_Ds_35_3, f_Ds_35, l_Ds_35⟩ := bk4 H_Ds_35
                  replace H_Ds_35 := Lib.hid H_Ds_35
                  have H_Hs_35 := (hb35.block (gH) (blk_lt' H_Hs_71.out)).trans H_Hs_71.out
                  clear k_Hs_71_0 k_Hs_71_1 k_Hs_71_2 k_Hs_71_3 f_Hs_71 H_Hs_71
                  obtain ⟨k_Hs_35_0, k_Hs_35_1, k_Hs_35_2, k_Hs_35_3, f_Hs_35, l_Hs_35⟩ := bk4 H_Hs_35
                  replace H_Hs_35 := Lib.hid H_Hs_35
                  have H_Cs_35 := (hb35.block (gC) (blk_lt' H_Cs_71.out)).trans H_Cs_71.out
                  clear k_Cs_71_0 k_Cs_71_1 k_Cs_71_2 k_Cs_71_3 f_Cs_71 H_Cs_71
                  obtain ⟨k_Cs_35_0, k_Cs_35_1, k_Cs_35_2, k_Cs_35_3, f_Cs_35, l_Cs_35⟩ := bk4 H_Cs_35
                  replace H_Cs_35 := Lib.hid H_Cs_35
                  have H_XS_35 := (hb35.block (w28.heap.size) (blk_lt' H_XS_71.out)).trans H_XS_71.out
                  clear k_XS_71_0 k_XS_71_1 k_XS_71_2 k_XS_71_3 f_XS_71 H_XS_71
                  obtain ⟨k_XS_35_0, k_XS_35_1, k_XS_35_2, k_XS_35_3, f_XS_35, l_XS_35⟩ := bk4 H_XS_35
                  replace H_XS_35 := Lib.hid H_XS_35
                  have H_X_35 := (hb35.block (gx) (blk_lt' H_X_71.out)).trans H_X_71.out
                  clear k_X_71_0 k_X_71_1 f_X_71 H_X_71
                  obtain ⟨k_X_35_0, k_X_35_1, f_X_35, l_X_35⟩ := bk2 H_X_35
                  replace H_X_35 := Lib.hid H_X_35
                  have H_YS_35 := (hb35.block (w32.heap.size) (blk_lt' H_YS_71.out)).trans H_YS_71.out
                  clear k_YS_71_0 k_YS_71_1 k_YS_71_2 k_YS_71_3 f_YS_71 H_YS_71
                  obtain ⟨k_YS_35_0, k_YS_35_1, k_YS_35_2, k_YS_35_3, f_YS_35, l_YS_35⟩ := bk4 H_YS_35
                  replace H_YS_35 := Lib.hid H_YS_35
                  have H_U_35 := (hb35.block (gu) (blk_lt' H_U_71.out)).trans H_U_71.out
                  clear k_U_71_0 k_U_71_1 f_U_71 H_U_71
                  obtain ⟨k_U_35_0, k_U_35_1, f_U_35, l_U_35⟩ := bk2 H_U_35
                  replace H_U_35 := Lib.hid H_U_35
                  have hB35 : Below w.heap.size w w35 := below_via hb35 (by assumption) (by first | exact hB71.size | go_size)
                  have sz1 := hB35.size
                  have HBn := HB71.trans (hb35.mono HB71.size)
                  have sz2 := HBn.size
                  replace H_I_35 := H_I_35.out
                  replace H_K_35 := H_K_35.out
                  replace H_As_35 := H_As_35.out
                  replace H_Si_35 := H_Si_35.out
                  replace H_Ms_35 := H_Ms_35.out
                  replace H_Ds_35 := H_Ds_35.out
                  replace H_Hs_35 := H_Hs_35.out
                  replace H_Cs_35 := H_Cs_35.out
                  replace H_XS_35 := H_XS_35.out
                  replace H_X_35 := H_X_35.out
                  replace H_YS_35 := H_YS_35.out
                  replace H_U_35 := H_U_35.out
                  refine chk (fun W => Below w.heap.size w W ∧ W.heap[gI]? = some (.cells #[.int .i64 n1, .int .i64 d1, .int .i64 n2, .int .i64 d2] 26 (0, 0)) ∧ W.heap[gK]? = some (.cells #[.int .i64 n3, .int .i64 d3, .int .i64 n4, .int .i64 d4] 26 (0, 0)) ∧ W.heap[gA]? = some (.cells #[.int .i64 A1, .int .i64 A2, .int .i64 A3, .int .i64 A4] 26 (0, 0)) ∧ W.heap[gS]? = some (.cells #[.int .i64 S1, .int .i64 S2, .int .i64 S3, .int .i64 S4] 26 (0, 0)) ∧ W.heap[gM]? = some (.cells #[.int .i64 M1, .int .i64 M2, .int .i64 M3, .int .i64 M4] 26 (0, 0)) ∧ W.heap[gD]? = some (.cells #[.int .i64 D1, .int .i64 D2, .int .i64 D3, .int .i64 D4] 26 (0, 0)) ∧ W.heap[gH]? = some (.cells #[.int .i64 H1, .int .i64 H2, .int .i64 H3, .int .i64 H4] 26 (0, 0)) ∧ W.heap[gC]? = some (.cells #[.int .i64 C1, .int .i64 C2, .int .i64 C3, .int .i64 C4] 26 (0, 0)) ∧ W.heap[w28.heap.size]? = some (.cells #[.int .i64 n1, .int .i64 d1, .int .i64 n2, .int .i64 d2] 24 (0, 0)) ∧ W.heap[gx]? = some (.cells #[.int .i64 x, .int .i64 y] 24 (0, 0)) ∧ W.heap[w32.heap.size]? = some (.cells #[.int .i64 n3, .int .i64 d3, .int .i64 n4, .int .i64 d4] 24 (0, 0)) ∧ W.heap[gu]? = some (.cells #[.int .i64 u, .int .i64 v] 24 (0, 0)) ∧ W.heap[w35.heap.size]? = some (.cells #[.int .i64 f1, .int .i64 f2] 24 (0, 0)) ∧ Below w33.heap.size w33 W) (by refine ⟨?_, ?_, ?_, ?_, ?_, ?_, ?_, ?_, ?_, ?_, ?_, ?_, ?_, ?_, ?_⟩ <;> (repeat' first | (with_reducible first | assumption | (apply Ne.symm; assumption) | apply Nat.le_refl | apply Nat.le_add_right | apply zL | apply zRf | apply Wx.box | apply Wx.box4 | apply zWa | apply Wx.drew | apply zWn | apply bx_drew | apply bx_drewN | apply bx_set3 | apply bx_set2 | apply bx_set4 | apply bx_set1) | ((with_reducible apply bx_new); (focus (go_size; done))) | (with_reducible first | apply zOl | apply zFa | apply zDn | apply zDr | apply zAl | apply zSt | refine zVi (by assumption) ?_ ?_) | go_size | omega)) ?_
                  clear k_I_35_0 k_I_35_1 k_I_35_2 k_I_35_3 f_I_35 H_I_35
                  clear k_K_35_0 k_K_35_1 k_K_35_2 k_K_35_3 f_K_35 H_K_35
                  clear k_As_35_0 k_As_35_1 k_As_35_2 k_As_35_3 f_As_35 H_As_35
                  clear k_Si_35_0 k_Si_35_1 k_Si_35_2 k_Si_35_3 f_Si_35 H_Si_35
                  clear k_Ms_35_0 k_Ms_35_1 k_Ms_35_2 k_Ms_35_3 f_Ms_35 H_Ms_35
                  clear k_Ds_35_0 k_Ds_35_1 k_Ds_35_2 k_Ds_35_3 f_Ds_35 H_Ds_35
                  clear k_Hs_35_0 k_Hs_35_1 k_Hs_35_2 k_Hs_35_3 f_Hs_35 H_Hs_35
                  clear k_Cs_35_0 k_Cs_35_1 k_Cs_35_2 k_Cs_35_3 f_Cs_35 H_Cs_35
                  clear k_XS_35_0 k_XS_35_1 k_XS_35_2 k_XS_35_3 f_XS_35 H_XS_35
                  clear k_X_35_0 k_X_35_1 f_X_35 H_X_35
                  clear k_YS_35_0 k_YS_35_1 k_YS_35_2 k_YS_35_3 f_YS_35 H_YS_35
                  clear k_U_35_0 k_U_35_1 f_U_35 H_U_35
                  clear hB35
                  rintro w72 ⟨hB72, H_I_72, H_K_72, H_As_72, H_Si_72, H_Ms_72, H_Ds_72, H_Hs_72, H_Cs_72, H_XS_72, H_X_72, H_YS_72, H_U_72, H_Sf_72, HB72⟩
                  obtain ⟨k_I_72_0, k_I_72_1, k_I_72_2, k_I_72_3, f_I_72, l_I_72⟩ := bk4 H_I_72
                  replace H_I_72 := Lib.hid H_I_72
                  obtain ⟨k_K_72_0, k_K_72_1, k_K_72_2, k_K_72_3, f_K_72, l_K_72⟩ := bk4 H_K_72
                  replace H_K_72 := Lib.hid H_K_72
                  obtain ⟨k_As_72_0, k_As_72_1, k_As_72_2, k_As_72_3, f_As_72, l_As_72⟩ := bk4 H_As_72
                  replace H_As_72 := Lib.hid H_As_72
                  obtain ⟨k_Si_72_0, k_Si_72_1, k_Si_72_2, k_Si_72_3, f_Si_72, l_Si_72⟩ := bk4 H_Si_72
                  replace H_Si_72 := Lib.hid H_Si_72
                  obtain ⟨k_Ms_72_0, k_Ms_72_1, k_Ms_72_2, k_Ms_72_3, f_Ms_72, l_Ms_72⟩ := bk4 H_Ms_72
                  replace H_Ms_72 := Lib.hid H_Ms_72
                  obtain ⟨k_Ds_72_0, k_Ds_72_1, k_Ds_72_2, k_Ds_72_3, f_Ds_72, l_Ds_72⟩ := bk4 H_Ds_72
                  replace H_Ds_72 := Lib.hid H_Ds_72
                  obtain ⟨k_Hs_72_0, k_Hs_72_1, k_Hs_72_2, k_Hs_72_3, f_Hs_72, l_Hs_72⟩ := bk4 H_Hs_72
                  replace H_Hs_72 := Lib.hid H_Hs_72
                  obtain ⟨k_Cs_72_0, k_Cs_72_1, k_Cs_72_2, k_Cs_72_3, f_Cs_72, l_Cs_72⟩ := bk4 H_Cs_72
                  replace H_Cs_72 := Lib.hid H_Cs_72
                  obtain ⟨k_XS_72_0, k_XS_72_1, k_XS_72_2, k_XS_72_3, f_XS_72, l_XS_72⟩ := bk4 H_XS_72
                  replace H_XS_72 := Lib.hid H_XS_72
                  obtain ⟨k_X_72_0, k_X_72_1, f_X_72, l_X_72⟩ := bk2 H_X_72
                  replace H_X_72 := Lib.hid H_X_72
                  obtain ⟨k_YS_72_0, k_YS_72_1, k_YS_72_2, k_YS_72_3, f_YS_72, l_YS_72⟩ := bk4 H_YS_72
                  replace H_YS_72 := Lib.hid H_YS_72
                  obtain ⟨k_U_72_0, k_U_72_1, f_U_72, l_U_72⟩ := bk2 H_U_72
                  replace H_U_72 := Lib.hid H_U_72
                  obtain ⟨k_Sf_72_0, k_Sf_72_1, f_Sf_72, l_Sf_72⟩ := bk2 H_Sf_72
                  replace H_Sf_72 := Lib.hid H_Sf_72
                  clear hb35 TS HB71 HBn sz1 sz2
                  go_cut [229] (fun sq wx => sq = .bool false ∧ Below w72.heap.size w72 wx)
                  case first =>
                    as_aux_lemma =>
                      clear Fs Fm Fd Fh Fc Fb hx hy HB72
                      cases oa
                      · go_wp2_with fail
                        go_meet
                        exact ⟨rfl, by repeat' first | (with_reducible first | apply zRf | assumption | apply zDn | apply zDr | apply zAl | apply zSt | refine zVi (by assumption) ?_ ?_) | go_size⟩
                      · cases fo
                        · go_wp2_with fail
                          go_meet
                          exact ⟨rfl, by repeat' first | (with_reducible first | apply zRf | assumption | apply zDn | apply zDr | apply zAl | apply zSt | refine zVi (by assumption) ?_ ?_) | go_size⟩
                        · cases bq
                          · simp at FqS
                          · go_wp2_with (first | (have _t := tok37; go_at_call 19; (with_reducible refine ((TSq _).out).mono ?_); rintro e w37 ⟨rfl, hb37⟩; clear tok37 _t; have hz37 := hb37.size; (try simp only [World.size_alloc, World.size_setCell, World.size_drew, World.size_drewN'] at hz37)))
                            go_meet
                            exact ⟨rfl, by repeat' first | (with_reducible first | apply zRf | assumption | apply zDn | apply zDr | apply zAl | apply zSt | refine zVi (by assumption) ?_ ?_) | go_size⟩
                  case rest =>
                    obtain ⟨rfl, hb73⟩ := hcut
                    generalize wc = w73 at *
                    clear TSq FqS bq
                    clear k_Sf_72_0
                    clear k_Sf_72_1
                    clear f_Sf_72 H_Sf_72
                    have H_I_73 := (hb73.block (gI) (blk_lt' H_I_72.out)).trans H_I_72.out
                    clear k_I_72_0 k_I_72_1 k_I_72_2 k_I_72_3 f_I_72 H_I_72
                    obtain ⟨k_I_73_0, k_I_73_1, k_I_73_2, k_I_73_3, f_I_73, l_I_73⟩ := bk4 H_I_73
                    replace H_I_73 := Lib.hid H_I_73
                    have H_K_73 := (hb73.block (gK) (blk_lt' H_K_72.out)).trans H_K_72.out
                    clear k_K_72_0 k_K_72_1 k_K_72_2 k_K_72_3 f_K_72 H_K_72
                    obtain ⟨k_K_73_0, k_K_73_1, k_K_73_2, k_K_73_3, f_K_73, l_K_73⟩ := bk4 H_K_73
                    replace H_K_73 := Lib.hid H_K_73
                    have H_As_73 := (hb73.block (gA) (blk_lt' H_As_72.out)).trans H_As_72.out
                    clear k_As_72_0 k_As_72_1 k_As_72_2 k_As_72_3 f_As_72 H_As_72
                    obtain ⟨k_As_73_0, k_As_73_1, k_As_73_2, k_As_73_3, f_As_73, l_As_73⟩ := bk4 H_As_73
                    replace H_As_73 := Lib.hid H_As_73
                    have H_Si_73 := (hb73.block (gS) (blk_lt' H_Si_72.out)).trans H_Si_72.out
                    clear k_Si_72_0 k_Si_72_1 k_Si_72_2 k_Si_72_3 f_Si_72 H_Si_72
                    obtain ⟨k_Si_73_0, k_Si_73_1, k_Si_73_2, k_Si_73_3, f_Si_73, l_Si_73⟩ := bk4 H_Si_73
                    replace H_Si_73 := Lib.hid H_Si_73
                    have H_Ms_73 := (hb73.block (gM) (blk_lt' H_Ms_72.out)).trans H_Ms_72.out
                    clear k_Ms_72_0 k_Ms_72_1 k_Ms_72_2 k_Ms_72_3 f_Ms_72 H_Ms_72
                    obtain ⟨k_Ms_73_0, k_Ms_73_1, k_Ms_73_2, k_Ms_73_3, f_Ms_73, l_Ms_73⟩ := bk4 H_Ms_73
                    replace H_Ms_73 := Lib.hid H_Ms_73
                    have H_Ds_73 := (hb73.block (gD) (blk_lt' H_Ds_72.out)).trans H_Ds_72.out
                    clear k_Ds_72_0 k_Ds_72_1 k_Ds_72_2 k_Ds_72_3 f_Ds_72 H_Ds_72
                    obtain ⟨k_Ds_73_0, k_Ds_73_1, k_Ds_73_2, k_Ds_73_3, f_Ds_73, l_Ds_73⟩ := bk4 H_Ds_73
                    replace H_Ds_73 := Lib.hid H_Ds_73
                    have H_Hs_73 := (hb73.block (gH) (blk_lt' H_Hs_72.out)).trans H_Hs_72.out
                    clear k_Hs_72_0 k_Hs_72_1 k_Hs_72_2 k_Hs_72_3 f_Hs_72 H_Hs_72
                    obtain ⟨k_Hs_73_0, k_Hs_73_1, k_Hs_73_2, k_Hs_73_3, f_Hs_73, l_Hs_73⟩ := bk4 H_Hs_73
                    replace H_Hs_73 := Lib.hid H_Hs_73
                    have H_Cs_73 := (hb73.block (gC) (blk_lt' H_Cs_72.out)).trans H_Cs_72.out
                    clear k_Cs_72_0 k_Cs_72_1 k_Cs_72_2 k_Cs_72_3 f_Cs_72 H_Cs_72
                    obtain ⟨k_Cs_73_0, k_Cs_73_1, k_Cs_73_2, k_Cs_73_3, f_Cs_73, l_Cs_73⟩ := bk4 H_Cs_73
                    replace H_Cs_73 := Lib.hid H_Cs_73
                    have H_XS_73 := (hb73.block (w28.heap.size) (blk_lt' H_XS_72.out)).trans H_XS_72.out
                    clear k_XS_72_0 k_XS_72_1 k_XS_72_2 k_XS_72_3 f_XS_72 H_XS_72
                    obtain ⟨k_XS_73_0, k_XS_73_1, k_XS_73_2, k_XS_73_3, f_XS_73, l_XS_73⟩ := bk4 H_XS_73
                    replace H_XS_73 := Lib.hid H_XS_73
                    have H_X_73 := (hb73.block (gx) (blk_lt' H_X_72.out)).trans H_X_72.out
                    clear k_X_72_0 k_X_72_1 f_X_72 H_X_72
                    obtain ⟨k_X_73_0, k_X_73_1, f_X_73, l_X_73⟩ := bk2 H_X_73
                    replace H_X_73 := Lib.hid H_X_73
                    have H_YS_73 := (hb73.block (w32.heap.size) (blk_lt' H_YS_72.out)).trans H_YS_72.out
                    clear k_YS_72_0 k_YS_72_1 k_YS_72_2 k_YS_72_3 f_YS_72 H_YS_72
                    obtain ⟨k_YS_73_0, k_YS_73_1, k_YS_73_2, k_YS_73_3, f_YS_73, l_YS_73⟩ := bk4 H_YS_73
                    replace H_YS_73 := Lib.hid H_YS_73
                    have H_U_73 := (hb73.block (gu) (blk_lt' H_U_72.out)).trans H_U_72.out
                    clear k_U_72_0 k_U_72_1 f_U_72 H_U_72
                    obtain ⟨k_U_73_0, k_U_73_1, f_U_73, l_U_73⟩ := bk2 H_U_73
                    replace H_U_73 := Lib.hid H_U_73
                    have hB73 : Below w.heap.size w w73 := below_via hb73 (by assumption) (by first | exact hB72.size | go_size)
                    have HB73 := HB72.trans (hb73.mono HB72.size)
                    clear hb73 HB72
                    go_upto_region 27 with fail
                    have TM := fun W : World => Lib.hid (sProductOf_any x y u v W)
                    have FqM := Fm.out x y u v hx hy
                    have TMq := fun W : World => Lib.hid (qIn_any M1 M2 M3 M4 (twoF prF x y u v).1 (twoF prF x y u v).2.1 W)
                    generalize qiB M1 M2 M3 M4 (twoF prF x y u v).1 (twoF prF x y u v).2.1 = bq at TMq FqM
                    generalize (twoF prF x y u v).1 = f1 at *
                    generalize (twoF prF x y u v).2.1 = f2 at *
                    generalize (twoF prF x y u v).2.2 = fo at *
                    go_upto_region 28 with (first | (have _t := tok39; go_at_call 20; (with_reducible refine ((TM _).out).mono ?_); rintro e w39 ⟨rfl, hb39⟩; clear tok39 _t; have hz39 := hb39.size; (try simp only [World.size_alloc, World.size_setCell, World.size_drew, World.size_drewN'] at hz39)))
                    have H_I_39 := (hb39.block (gI) (blk_lt' H_I_73.out)).trans H_I_73.out
                    clear k_I_73_0 k_I_73_1 k_I_73_2 k_I_73_3 f_I_73 H_I_73
                    obtain ⟨k_I_39_0, k_I_39_1, k_I_39_2, k_I_39_3, f_I_39, l_I_39⟩ := bk4 H_I_39
                    replace H_I_39 := Lib.hid H_I_39
                    have H_K_39 := (hb39.block (gK) (blk_lt' H_K_73.out)).trans H_K_73.out
                    clear k_K_73_0 k_K_73_1 k_K_73_2 k_K_73_3 f_K_73 H_K_73
                    obtain ⟨k_K_39_0, k_K_39_1, k_K_39_2, k_K_39_3, f_K_39, l_K_39⟩ := bk4 H_K_39
                    replace H_K_39 := Lib.hid H_K_39
                    have H_As_39 := (hb39.block (gA) (blk_lt' H_As_73.out)).trans H_As_73.out
                    clear k_As_73_0 k_As_73_1 k_As_73_2 k_As_73_3 f_As_73 H_As_73
                    obtain ⟨k_As_39_0, k_As_39_1, k_As_39_2, k_As_39_3, f_As_39, l_As_39⟩ := bk4 H_As_39
                    replace H_As_39 := Lib.hid H_As_39
                    have H_Si_39 := (hb39.block (gS) (blk_lt' H_Si_73.out)).trans H_Si_73.out
                    clear k_Si_73_0 k_Si_73_1 k_Si_73_2 k_Si_73_3 f_Si_73 H_Si_73
                    obtain ⟨k_Si_39_0, k_Si_39_1, k_Si_39_2, k_Si_39_3, f_Si_39, l_Si_39⟩ := bk4 H_Si_39
                    replace H_Si_39 := Lib.hid H_Si_39
                    have H_Ms_39 := (hb39.block (gM) (blk_lt' H_Ms_73.out)).trans H_Ms_73.out
                    clear k_Ms_73_0 k_Ms_73_1 k_Ms_73_2 k_Ms_73_3 f_Ms_73 H_Ms_73
                    obtain ⟨k_Ms_39_0, k_Ms_39_1, k_Ms_39_2, k_Ms_39_3, f_Ms_39, l_Ms_39⟩ := bk4 H_Ms_39
                    replace H_Ms_39 := Lib.hid H_Ms_39
                    have H_Ds_39 := (hb39.block (gD) (blk_lt' H_Ds_73.out)).trans H_Ds_73.out
                    clear k_Ds_73_0 k_Ds_73_1 k_Ds_73_2 k_Ds_73_3 f_Ds_73 H_Ds_73
                    obtain ⟨k_Ds_39_0, k_Ds_39_1, k_Ds_39_2, k_Ds_39_3, f_Ds_39, l_Ds_39⟩ := bk4 H_Ds_39
                    replace H_Ds_39 := Lib.hid H_Ds_39
                    have H_Hs_39 := (hb39.block (gH) (blk_lt' H_Hs_73.out)).trans H_Hs_73.out
                    clear k_Hs_73_0 k_Hs_73_1 k_Hs_73_2 k_Hs_73_3 f_Hs_73 H_Hs_73
                    obtain ⟨k_Hs_39_0, k_Hs_39_1, k_Hs_39_2, k_Hs_39_3, f_Hs_39, l_Hs_39⟩ := bk4 H_Hs_39
                    replace H_Hs_39 := Lib.hid H_Hs_39
                    have H_Cs_39 := (hb39.block (gC) (blk_lt' H_Cs_73.out)).trans H_Cs_73.out
                    clear k_Cs_73_0 k_Cs_73_1 k_Cs_73_2 k_Cs_73_3 f_Cs_73 H_Cs_73
                    obtain ⟨k_Cs_39_0, k_Cs_39_1, k_Cs_39_2, k_Cs_39_3, f_Cs_39, l_Cs_39⟩ := bk4 H_Cs_39
                    replace H_Cs_39 := Lib.hid H_Cs_39
                    have H_XS_39 := (hb39.block (w28.heap.size) (blk_lt' H_XS_73.out)).trans H_XS_73.out
                    clear k_XS_73_0 k_XS_73_1 k_XS_73_2 k_XS_73_3 f_XS_73 H_XS_73
                    obtain ⟨k_XS_39_0, k_XS_39_1, k_XS_39_2, k_XS_39_3, f_XS_39, l_XS_39⟩ := bk4 H_XS_39
                    replace H_XS_39 := Lib.hid H_XS_39
                    have H_X_39 := (hb39.block (gx) (blk_lt' H_X_73.out)).trans H_X_73.out
                    clear k_X_73_0 k_X_73_1 f_X_73 H_X_73
                    obtain ⟨k_X_39_0, k_X_39_1, f_X_39, l_X_39⟩ := bk2 H_X_39
                    replace H_X_39 := Lib.hid H_X_39
                    have H_YS_39 := (hb39.block (w32.heap.size) (blk_lt' H_YS_73.out)).trans H_YS_73.out
                    clear k_YS_73_0 k_YS_73_1 k_YS_73_2 k_YS_73_3 f_YS_73 H_YS_73
                    obtain ⟨k_YS_39_0, k_YS_39_1, k_YS_39_2, k_YS_39_3, f_YS_39, l_YS_39⟩ := bk4 H_YS_39
                    replace H_YS_39 := Lib.hid H_YS_39
                    have H_U_39 := (hb39.block (gu) (blk_lt' H_U_73.out)).trans H_U_73.out
                    clear k_U_73_0 k_U_73_1 f_U_73 H_U_73
                    obtain ⟨k_U_39_0, k_U_39_1, f_U_39, l_U_39⟩ := bk2 H_U_39
                    replace H_U_39 := Lib.hid H_U_39
                    have hB39 : Below w.heap.size w w39 := below_via hb39 (by assumption) (by first | exact hB73.size | go_size)
                    have sz1 := hB39.size
                    have HBn := HB73.trans (hb39.mono HB73.size)
                    have sz2 := HBn.size
                    replace H_I_39 := H_I_39.out
                    replace H_K_39 := H_K_39.out
                    replace H_As_39 := H_As_39.out
                    replace H_Si_39 := H_Si_39.out
                    replace H_Ms_39 := H_Ms_39.out
                    replace H_Ds_39 := H_Ds_39.out
                    replace H_Hs_39 := H_Hs_39.out
                    replace H_Cs_39 := H_Cs_39.out
                    replace H_XS_39 := H_XS_39.out
                    replace H_X_39 := H_X_39.out
                    replace H_YS_39 := H_YS_39.out
                    replace H_U_39 := H_U_39.out
                    refine chk (fun W => Below w.heap.size w W ∧ W.heap[gI]? = some (.cells #[.int .i64 n1, .int .i64 d1, .int .i64 n2, .int .i64 d2] 26 (0, 0)) ∧ W.heap[gK]? = some (.cells #[.int .i64 n3, .int .i64 d3, .int .i64 n4, .int .i64 d4] 26 (0, 0)) ∧ W.heap[gA]? = some (.cells #[.int .i64 A1, .int .i64 A2, .int .i64 A3, .int .i64 A4] 26 (0, 0)) ∧ W.heap[gS]? = some (.cells #[.int .i64 S1, .int .i64 S2, .int .i64 S3, .int .i64 S4] 26 (0, 0)) ∧ W.heap[gM]? = some (.cells #[.int .i64 M1, .int .i64 M2, .int .i64 M3, .int .i64 M4] 26 (0, 0)) ∧ W.heap[gD]? = some (.cells #[.int .i64 D1, .int .i64 D2, .int .i64 D3, .int .i64 D4] 26 (0, 0)) ∧ W.heap[gH]? = some (.cells #[.int .i64 H1, .int .i64 H2, .int .i64 H3, .int .i64 H4] 26 (0, 0)) ∧ W.heap[gC]? = some (.cells #[.int .i64 C1, .int .i64 C2, .int .i64 C3, .int .i64 C4] 26 (0, 0)) ∧ W.heap[w28.heap.size]? = some (.cells #[.int .i64 n1, .int .i64 d1, .int .i64 n2, .int .i64 d2] 24 (0, 0)) ∧ W.heap[gx]? = some (.cells #[.int .i64 x, .int .i64 y] 24 (0, 0)) ∧ W.heap[w32.heap.size]? = some (.cells #[.int .i64 n3, .int .i64 d3, .int .i64 n4, .int .i64 d4] 24 (0, 0)) ∧ W.heap[gu]? = some (.cells #[.int .i64 u, .int .i64 v] 24 (0, 0)) ∧ W.heap[w39.heap.size]? = some (.cells #[.int .i64 f1, .int .i64 f2] 24 (0, 0)) ∧ Below w33.heap.size w33 W) (by refine ⟨?_, ?_, ?_, ?_, ?_, ?_, ?_, ?_, ?_, ?_, ?_, ?_, ?_, ?_, ?_⟩ <;> (repeat' first | (with_reducible first | assumption | (apply Ne.symm; assumption) | apply Nat.le_refl | apply Nat.le_add_right | apply zL | apply zRf | apply Wx.box | apply Wx.box4 | apply zWa | apply Wx.drew | apply zWn | apply bx_drew | apply bx_drewN | apply bx_set3 | apply bx_set2 | apply bx_set4 | apply bx_set1) | ((with_reducible apply bx_new); (focus (go_size; done))) | (with_reducible first | apply zOl | apply zFa | apply zDn | apply zDr | apply zAl | apply zSt | refine zVi (by assumption) ?_ ?_) | go_size | omega)) ?_
                    clear k_I_39_0 k_I_39_1 k_I_39_2 k_I_39_3 f_I_39 H_I_39
                    clear k_K_39_0 k_K_39_1 k_K_39_2 k_K_39_3 f_K_39 H_K_39
                    clear k_As_39_0 k_As_39_1 k_As_39_2 k_As_39_3 f_As_39 H_As_39
                    clear k_Si_39_0 k_Si_39_1 k_Si_39_2 k_Si_39_3 f_Si_39 H_Si_39
                    clear k_Ms_39_0 k_Ms_39_1 k_Ms_39_2 k_Ms_39_3 f_Ms_39 H_Ms_39
                    clear k_Ds_39_0 k_Ds_39_1 k_Ds_39_2 k_Ds_39_3 f_Ds_39 H_Ds_39
                    clear k_Hs_39_0 k_Hs_39_1 k_Hs_39_2 k_Hs_39_3 f_Hs_39 H_Hs_39
                    clear k_Cs_39_0 k_Cs_39_1 k_Cs_39_2 k_Cs_39_3 f_Cs_39 H_Cs_39
                    clear k_XS_39_0 k_XS_39_1 k_XS_39_2 k_XS_39_3 f_XS_39 H_XS_39
                    clear k_X_39_0 k_X_39_1 f_X_39 H_X_39
                    clear k_YS_39_0 k_YS_39_1 k_YS_39_2 k_YS_39_3 f_YS_39 H_YS_39
                    clear k_U_39_0 k_U_39_1 f_U_39 H_U_39
                    clear hB39
                    rintro w74 ⟨hB74, H_I_74, H_K_74, H_As_74, H_Si_74, H_Ms_74, H_Ds_74, H_Hs_74, H_Cs_74, H_XS_74, H_X_74, H_YS_74, H_U_74, H_Mf_74, HB74⟩
                    obtain ⟨k_I_74_0, k_I_74_1, k_I_74_2, k_I_74_3, f_I_74, l_I_74⟩ := bk4 H_I_74
                    replace H_I_74 := Lib.hid H_I_74
                    obtain ⟨k_K_74_0, k_K_74_1, k_K_74_2, k_K_74_3, f_K_74, l_K_74⟩ := bk4 H_K_74
                    replace H_K_74 := Lib.hid H_K_74
                    obtain ⟨k_As_74_0, k_As_74_1, k_As_74_2, k_As_74_3, f_As_74, l_As_74⟩ := bk4 H_As_74
                    replace H_As_74 := Lib.hid H_As_74
                    obtain ⟨k_Si_74_0, k_Si_74_1, k_Si_74_2, k_Si_74_3, f_Si_74, l_Si_74⟩ := bk4 H_Si_74
                    replace H_Si_74 := Lib.hid H_Si_74
                    obtain ⟨k_Ms_74_0, k_Ms_74_1, k_Ms_74_2, k_Ms_74_3, f_Ms_74, l_Ms_74⟩ := bk4 H_Ms_74
                    replace H_Ms_74 := Lib.hid H_Ms_74
                    obtain ⟨k_Ds_74_0, k_Ds_74_1, k_Ds_74_2, k_Ds_74_3, f_Ds_74, l_Ds_74⟩ := bk4 H_Ds_74
                    replace H_Ds_74 := Lib.hid H_Ds_74
                    obtain ⟨k_Hs_74_0, k_Hs_74_1, k_Hs_74_2, k_Hs_74_3, f_Hs_74, l_Hs_74⟩ := bk4 H_Hs_74
                    replace H_Hs_74 := Lib.hid H_Hs_74
                    obtain ⟨k_Cs_74_0, k_Cs_74_1, k_Cs_74_2, k_Cs_74_3, f_Cs_74, l_Cs_74⟩ := bk4 H_Cs_74
                    replace H_Cs_74 := Lib.hid H_Cs_74
                    obtain ⟨k_XS_74_0, k_XS_74_1, k_XS_74_2, k_XS_74_3, f_XS_74, l_XS_74⟩ := bk4 H_XS_74
                    replace H_XS_74 := Lib.hid H_XS_74
                    obtain ⟨k_X_74_0, k_X_74_1, f_X_74, l_X_74⟩ := bk2 H_X_74
                    replace H_X_74 := Lib.hid H_X_74
                    obtain ⟨k_YS_74_0, k_YS_74_1, k_YS_74_2, k_YS_74_3, f_YS_74, l_YS_74⟩ := bk4 H_YS_74
                    replace H_YS_74 := Lib.hid H_YS_74
                    obtain ⟨k_U_74_0, k_U_74_1, f_U_74, l_U_74⟩ := bk2 H_U_74
                    replace H_U_74 := Lib.hid H_U_74
                    obtain ⟨k_Mf_74_0, k_Mf_74_1, f_Mf_74, l_Mf_74⟩ := bk2 H_Mf_74
                    replace H_Mf_74 := Lib.hid H_Mf_74
                    clear hb39 TM HB73 HBn sz1 sz2
                    go_cut [245] (fun sq wx => sq = .bool false ∧ Below w74.heap.size w74 wx)
                    case first =>
                      as_aux_lemma =>
                        clear Fs Fm Fd Fh Fc Fb hx hy HB74
                        cases om
                        · go_wp2_with fail
                          go_meet
                          exact ⟨rfl, by repeat' first | (with_reducible first | apply zRf | assumption | apply zDn | apply zDr | apply zAl | apply zSt | refine zVi (by assumption) ?_ ?_) | go_size⟩
                        · cases fo
                          · go_wp2_with fail
                            go_meet
                            exact ⟨rfl, by repeat' first | (with_reducible first | apply zRf | assumption | apply zDn | apply zDr | apply zAl | apply zSt | refine zVi (by assumption) ?_ ?_) | go_size⟩
                          · cases bq
                            · simp at FqM
                            · go_wp2_with (first | (have _t := tok41; go_at_call 19; (with_reducible refine ((TMq _).out).mono ?_); rintro e w41 ⟨rfl, hb41⟩; clear tok41 _t; have hz41 := hb41.size; (try simp only [World.size_alloc, World.size_setCell, World.size_drew, World.size_drewN'] at hz41)))
                              go_meet
                              exact ⟨rfl, by repeat' first | (with_reducible first | apply zRf | assumption | apply zDn | apply zDr | apply zAl | apply zSt | refine zVi (by assumption) ?_ ?_) | go_size⟩
                    case rest =>
                      obtain ⟨rfl, hb75⟩ := hcut
                      generalize wc = w75 at *
                      clear TMq FqM bq
                      clear k_Mf_74_0
                      clear k_Mf_74_1
                      clear f_Mf_74 H_Mf_74
                      have H_I_75 := (hb75.block (gI) (blk_lt' H_I_74.out)).trans H_I_74.out
                      clear k_I_74_0 k_I_74_1 k_I_74_2 k_I_74_3 f_I_74 H_I_74
                      obtain ⟨k_I_75_0, k_I_75_1, k_I_75_2, k_I_75_3, f_I_75, l_I_75⟩ := bk4 H_I_75
                      replace H_I_75 := Lib.hid H_I_75
                      have H_K_75 := (hb75.block (gK) (blk_lt' H_K_74.out)).trans H_K_74.out
                      clear k_K_74_0 k_K_74_1 k_K_74_2 k_K_74_3 f_K_74 H_K_74
                      obtain ⟨k_K_75_0, k_K_75_1, k_K_75_2, k_K_75_3, f_K_75, l_K_75⟩ := bk4 H_K_75
                      replace H_K_75 := Lib.hid H_K_75
                      have H_As_75 := (hb75.block (gA) (blk_lt' H_As_74.out)).trans H_As_74.out
                      clear k_As_74_0 k_As_74_1 k_As_74_2 k_As_74_3 f_As_74 H_As_74
                      obtain ⟨k_As_75_0, k_As_75_1, k_As_75_2, k_As_75_3, f_As_75, l_As_75⟩ := bk4 H_As_75
                      replace H_As_75 := Lib.hid H_As_75
                      have H_Si_75 := (hb75.block (gS) (blk_lt' H_Si_74.out)).trans H_Si_74.out
                      clear k_Si_74_0 k_Si_74_1 k_Si_74_2 k_Si_74_3 f_Si_74 H_Si_74
                      obtain ⟨k_Si_75_0, k_Si_75_1, k_Si_75_2, k_Si_75_3, f_Si_75, l_Si_75⟩ := bk4 H_Si_75
                      replace H_Si_75 := Lib.hid H_Si_75
                      have H_Ms_75 := (hb75.block (gM) (blk_lt' H_Ms_74.out)).trans H_Ms_74.out
                      clear k_Ms_74_0 k_Ms_74_1 k_Ms_74_2 k_Ms_74_3 f_Ms_74 H_Ms_74
                      obtain ⟨k_Ms_75_0, k_Ms_75_1, k_Ms_75_2, k_Ms_75_3, f_Ms_75, l_Ms_75⟩ := bk4 H_Ms_75
                      replace H_Ms_75 := Lib.hid H_Ms_75
                      have H_Ds_75 := (hb75.block (gD) (blk_lt' H_Ds_74.out)).trans H_Ds_74.out
                      clear k_Ds_74_0 k_Ds_74_1 k_Ds_74_2 k_Ds_74_3 f_Ds_74 H_Ds_74
                      obtain ⟨k_Ds_75_0, k_Ds_75_1, k_Ds_75_2, k_Ds_75_3, f_Ds_75, l_Ds_75⟩ := bk4 H_Ds_75
                      replace H_Ds_75 := Lib.hid H_Ds_75
                      have H_Hs_75 := (hb75.block (gH) (blk_lt' H_Hs_74.out)).trans H_Hs_74.out
                      clear k_Hs_74_0 k_Hs_74_1 k_Hs_74_2 k_Hs_74_3 f_Hs_74 H_Hs_74
                      obtain ⟨k_Hs_75_0, k_Hs_75_1, k_Hs_75_2, k_Hs_75_3, f_Hs_75, l_Hs_75⟩ := bk4 H_Hs_75
                      replace H_Hs_75 := Lib.hid H_Hs_75
                      have H_Cs_75 := (hb75.block (gC) (blk_lt' H_Cs_74.out)).trans H_Cs_74.out
                      clear k_Cs_74_0 k_Cs_74_1 k_Cs_74_2 k_Cs_74_3 f_Cs_74 H_Cs_74
                      obtain ⟨k_Cs_75_0, k_Cs_75_1, k_Cs_75_2, k_Cs_75_3, f_Cs_75, l_Cs_75⟩ := bk4 H_Cs_75
                      replace H_Cs_75 := Lib.hid H_Cs_75
                      have H_XS_75 := (hb75.block (w28.heap.size) (blk_lt' H_XS_74.out)).trans H_XS_74.out
                      clear k_XS_74_0 k_XS_74_1 k_XS_74_2 k_XS_74_3 f_XS_74 H_XS_74
                      obtain ⟨k_XS_75_0, k_XS_75_1, k_XS_75_2, k_XS_75_3, f_XS_75, l_XS_75⟩ := bk4 H_XS_75
                      replace H_XS_75 := Lib.hid H_XS_75
                      have H_X_75 := (hb75.block (gx) (blk_lt' H_X_74.out)).trans H_X_74.out
                      clear k_X_74_0 k_X_74_1 f_X_74 H_X_74
                      obtain ⟨k_X_75_0, k_X_75_1, f_X_75, l_X_75⟩ := bk2 H_X_75
                      replace H_X_75 := Lib.hid H_X_75
                      have H_YS_75 := (hb75.block (w32.heap.size) (blk_lt' H_YS_74.out)).trans H_YS_74.out
                      clear k_YS_74_0 k_YS_74_1 k_YS_74_2 k_YS_74_3 f_YS_74 H_YS_74
                      obtain ⟨k_YS_75_0, k_YS_75_1, k_YS_75_2, k_YS_75_3, f_YS_75, l_YS_75⟩ := bk4 H_YS_75
                      replace H_YS_75 := Lib.hid H_YS_75
                      have H_U_75 := (hb75.block (gu) (blk_lt' H_U_74.out)).trans H_U_74.out
                      clear k_U_74_0 k_U_74_1 f_U_74 H_U_74
                      obtain ⟨k_U_75_0, k_U_75_1, f_U_75, l_U_75⟩ := bk2 H_U_75
                      replace H_U_75 := Lib.hid H_U_75
                      have hB75 : Below w.heap.size w w75 := below_via hb75 (by assumption) (by first | exact hB74.size | go_size)
                      have HB75 := HB74.trans (hb75.mono HB74.size)
                      clear hb75 HB74
                      go_upto_region 30 with fail
                      have TD := fun W : World => Lib.hid (sQuotientOf_any x y u v W)
                      have FqD := Fd.out x y u v hx hy
                      have TDq := fun W : World => Lib.hid (qIn_any D1 D2 D3 D4 (twoF quF x y u v).1 (twoF quF x y u v).2.1 W)
                      generalize qiB D1 D2 D3 D4 (twoF quF x y u v).1 (twoF quF x y u v).2.1 = bq at TDq FqD
                      generalize (twoF quF x y u v).1 = f1 at *
                      generalize (twoF quF x y u v).2.1 = f2 at *
                      generalize (twoF quF x y u v).2.2 = fo at *
                      go_upto_region 31 with (first | (have _t := tok43; go_at_call 21; (with_reducible refine ((TD _).out).mono ?_); rintro e w43 ⟨rfl, hb43⟩; clear tok43 _t; have hz43 := hb43.size; (try simp only [World.size_alloc, World.size_setCell, World.size_drew, World.size_drewN'] at hz43)))
                      have H_I_43 := (hb43.block (gI) (blk_lt' H_I_75.out)).trans H_I_75.out
                      clear k_I_75_0 k_I_75_1 k_I_75_2 k_I_75_3 f_I_75 H_I_75
                      obtain ⟨k_I_43_0, k_I_43_1, k_I_43_2, k_I_43_3, f_I_43, l_I_43⟩ := bk4 H_I_43
                      replace H_I_43 := Lib.hid H_I_43
                      have H_K_43 := (hb43.block (gK) (blk_lt' H_K_75.out)).trans H_K_75.out
                      clear k_K_75_0 k_K_75_1 k_K_75_2 k_K_75_3 f_K_75 H_K_75
                      obtain ⟨k_K_43_0, k_K_43_1, k_K_43_2, k_K_43_3, f_K_43, l_K_43⟩ := bk4 H_K_43
                      replace H_K_43 := Lib.hid H_K_43
                      have H_As_43 := (hb43.block (gA) (blk_lt' H_As_75.out)).trans H_As_75.out
                      clear k_As_75_0 k_As_75_1 k_As_75_2 k_As_75_3 f_As_75 H_As_75
                      obtain ⟨k_As_43_0, k_As_43_1, k_As_43_2, k_As_43_3, f_As_43, l_As_43⟩ := bk4 H_As_43
                      replace H_As_43 := Lib.hid H_As_43
                      have H_Si_43 := (hb43.block (gS) (blk_lt' H_Si_75.out)).trans H_Si_75.out
                      clear k_Si_75_0 k_Si_75_1 k_Si_75_2 k_Si_75_3 f_Si_75 H_Si_75
                      obtain ⟨k_Si_43_0, k_Si_43_1, k_Si_43_2, k_Si_43_3, f_Si_43, l_Si_43⟩ := bk4 H_Si_43
                      replace H_Si_43 := Lib.hid H_Si_43
                      have H_Ms_43 := (hb43.block (gM) (blk_lt' H_Ms_75.out)).trans H_Ms_75.out
                      clear k_Ms_75_0 k_Ms_75_1 k_Ms_75_2 k_Ms_75_3 f_Ms_75 H_Ms_75
                      obtain ⟨k_Ms_43_0, k_Ms_43_1, k_Ms_43_2, k_Ms_43_3, f_Ms_43, l_Ms_43⟩ := bk4 H_Ms_43
                      replace H_Ms_43 := Lib.hid H_Ms_43
                      have H_Ds_43 := (hb43.block (gD) (blk_lt' H_Ds_75.out)).trans H_Ds_75.out
                      clear k_Ds_75_0 k_Ds_75_1 k_Ds_75_2 k_Ds_75_3 f_Ds_75 H_Ds_75
                      obtain ⟨k_Ds_43_0, k_Ds_43_1, k_Ds_43_2, k_Ds_43_3, f_Ds_43, l_Ds_43⟩ := bk4 H_Ds_43
                      replace H_Ds_43 := Lib.hid H_Ds_43
                      have H_Hs_43 := (hb43.block (gH) (blk_lt' H_Hs_75.out)).trans H_Hs_75.out
                      clear k_Hs_75_0 k_Hs_75_1 k_Hs_75_2 k_Hs_75_3 f_Hs_75 H_Hs_75
                      obtain ⟨k_Hs_43_0, k_Hs_43_1, k_Hs_43_2, k_Hs_43_3, f_Hs_43, l_Hs_43⟩ := bk4 H_Hs_43
                      replace H_Hs_43 := Lib.hid H_Hs_43
                      have H_Cs_43 := (hb43.block (gC) (blk_lt' H_Cs_75.out)).trans H_Cs_75.out
                      clear k_Cs_75_0 k_Cs_75_1 k_Cs_75_2 k_Cs_75_3 f_Cs_75 H_Cs_75
                      obtain ⟨k_Cs_43_0, k_Cs_43_1, k_Cs_43_2, k_Cs_43_3, f_Cs_43, l_Cs_43⟩ := bk4 H_Cs_43
                      replace H_Cs_43 := Lib.hid H_Cs_43
                      have H_XS_43 := (hb43.block (w28.heap.size) (blk_lt' H_XS_75.out)).trans H_XS_75.out
                      clear k_XS_75_0 k_XS_75_1 k_XS_75_2 k_XS_75_3 f_XS_75 H_XS_75
                      obtain ⟨k_XS_43_0, k_XS_43_1, k_XS_43_2, k_XS_43_3, f_XS_43, l_XS_43⟩ := bk4 H_XS_43
                      replace H_XS_43 := Lib.hid H_XS_43
                      have H_X_43 := (hb43.block (gx) (blk_lt' H_X_75.out)).trans H_X_75.out
                      clear k_X_75_0 k_X_75_1 f_X_75 H_X_75
                      obtain ⟨k_X_43_0, k_X_43_1, f_X_43, l_X_43⟩ := bk2 H_X_43
                      replace H_X_43 := Lib.hid H_X_43
                      have H_YS_43 := (hb43.block (w32.heap.size) (blk_lt' H_YS_75.out)).trans H_YS_75.out
                      clear k_YS_75_0 k_YS_75_1 k_YS_75_2 k_YS_75_3 f_YS_75 H_YS_75
                      obtain ⟨k_YS_43_0, k_YS_43_1, k_YS_43_2, k_YS_43_3, f_YS_43, l_YS_43⟩ := bk4 H_YS_43
                      replace H_YS_43 := Lib.hid H_YS_43
                      have H_U_43 := (hb43.block (gu) (blk_lt' H_U_75.out)).trans H_U_75.out
                      clear k_U_75_0 k_U_75_1 f_U_75 H_U_75
                      obtain ⟨k_U_43_0, k_U_43_1, f_U_43, l_U_43⟩ := bk2 H_U_43
                      replace H_U_43 := Lib.hid H_U_43
                      have hB43 : Below w.heap.size w w43 := below_via hb43 (by assumption) (by first | exact hB75.size | go_size)
                      have sz1 := hB43.size
                      have HBn := HB75.trans (hb43.mono HB75.size)
                      have sz2 := HBn.size
                      replace H_I_43 := H_I_43.out
                      replace H_K_43 := H_K_43.out
                      replace H_As_43 := H_As_43.out
                      replace H_Si_43 := H_Si_43.out
                      replace H_Ms_43 := H_Ms_43.out
                      replace H_Ds_43 := H_Ds_43.out
                      replace H_Hs_43 := H_Hs_43.out
                      replace H_Cs_43 := H_Cs_43.out
                      replace H_XS_43 := H_XS_43.out
                      replace H_X_43 := H_X_43.out
                      replace H_YS_43 := H_YS_43.out
                      replace H_U_43 := H_U_43.out
                      refine chk (fun W => Below w.heap.size w W ∧ W.heap[gI]? = some (.cells #[.int .i64 n1, .int .i64 d1, .int .i64 n2, .int .i64 d2] 26 (0, 0)) ∧ W.heap[gK]? = some (.cells #[.int .i64 n3, .int .i64 d3, .int .i64 n4, .int .i64 d4] 26 (0, 0)) ∧ W.heap[gA]? = some (.cells #[.int .i64 A1, .int .i64 A2, .int .i64 A3, .int .i64 A4] 26 (0, 0)) ∧ W.heap[gS]? = some (.cells #[.int .i64 S1, .int .i64 S2, .int .i64 S3, .int .i64 S4] 26 (0, 0)) ∧ W.heap[gM]? = some (.cells #[.int .i64 M1, .int .i64 M2, .int .i64 M3, .int .i64 M4] 26 (0, 0)) ∧ W.heap[gD]? = some (.cells #[.int .i64 D1, .int .i64 D2, .int .i64 D3, .int .i64 D4] 26 (0, 0)) ∧ W.heap[gH]? = some (.cells #[.int .i64 H1, .int .i64 H2, .int .i64 H3, .int .i64 H4] 26 (0, 0)) ∧ W.heap[gC]? = some (.cells #[.int .i64 C1, .int .i64 C2, .int .i64 C3, .int .i64 C4] 26 (0, 0)) ∧ W.heap[w28.heap.size]? = some (.cells #[.int .i64 n1, .int .i64 d1, .int .i64 n2, .int .i64 d2] 24 (0, 0)) ∧ W.heap[gx]? = some (.cells #[.int .i64 x, .int .i64 y] 24 (0, 0)) ∧ W.heap[w32.heap.size]? = some (.cells #[.int .i64 n3, .int .i64 d3, .int .i64 n4, .int .i64 d4] 24 (0, 0)) ∧ W.heap[gu]? = some (.cells #[.int .i64 u, .int .i64 v] 24 (0, 0)) ∧ W.heap[w43.heap.size]? = some (.cells #[.int .i64 f1, .int .i64 f2] 24 (0, 0)) ∧ Below w33.heap.size w33 W) (by refine ⟨?_, ?_, ?_, ?_, ?_, ?_, ?_, ?_, ?_, ?_, ?_, ?_, ?_, ?_, ?_⟩ <;> (repeat' first | (with_reducible first | assumption | (apply Ne.symm; assumption) | apply Nat.le_refl | apply Nat.le_add_right | apply zL | apply zRf | apply Wx.box | apply Wx.box4 | apply zWa | apply Wx.drew | apply zWn | apply bx_drew | apply bx_drewN | apply bx_set3 | apply bx_set2 | apply bx_set4 | apply bx_set1) | ((with_reducible apply bx_new); (focus (go_size; done))) | (with_reducible first | apply zOl | apply zFa | apply zDn | apply zDr | apply zAl | apply zSt | refine zVi (by assumption) ?_ ?_) | go_size | omega)) ?_
                      clear k_I_43_0 k_I_43_1 k_I_43_2 k_I_43_3 f_I_43 H_I_43
                      clear k_K_43_0 k_K_43_1 k_K_43_2 k_K_43_3 f_K_43 H_K_43
                      clear k_As_43_0 k_As_43_1 k_As_43_2 k_As_43_3 f_As_43 H_As_43
                      clear k_Si_43_0 k_Si_43_1 k_Si_43_2 k_Si_43_3 f_Si_43 H_Si_43
                      clear k_Ms_43_0 k_Ms_43_1 k_Ms_43_2 k_Ms_43_3 f_Ms_43 H_Ms_43
                      clear k_Ds_43_0 k_Ds_43_1 k_Ds_43_2 k_Ds_43_3 f_Ds_43 H_Ds_43
                      clear k_Hs_43_0 k_Hs_43_1 k_Hs_43_2 k_Hs_43_3 f_Hs_43 H_Hs_43
                      clear k_Cs_43_0 k_Cs_43_1 k_Cs_43_2 k_Cs_43_3 f_Cs_43 H_Cs_43
                      clear k_XS_43_0 k_XS_43_1 k_XS_43_2 k_XS_43_3 f_XS_43 H_XS_43
                      clear k_X_43_0 k_X_43_1 f_X_43 H_X_43
                      clear k_YS_43_0 k_YS_43_1 k_YS_43_2 k_YS_43_3 f_YS_43 H_YS_43
                      clear k_U_43_0 k_U_43_1 f_U_43 H_U_43
                      clear hB43
                      rintro w76 ⟨hB76, H_I_76, H_K_76, H_As_76, H_Si_76, H_Ms_76, H_Ds_76, H_Hs_76, H_Cs_76, H_XS_76, H_X_76, H_YS_76, H_U_76, H_Df_76, HB76⟩
                      obtain ⟨k_I_76_0, k_I_76_1, k_I_76_2, k_I_76_3, f_I_76, l_I_76⟩ := bk4 H_I_76
                      replace H_I_76 := Lib.hid H_I_76
                      obtain ⟨k_K_76_0, k_K_76_1, k_K_76_2, k_K_76_3, f_K_76, l_K_76⟩ := bk4 H_K_76
                      replace H_K_76 := Lib.hid H_K_76
                      obtain ⟨k_As_76_0, k_As_76_1, k_As_76_2, k_As_76_3, f_As_76, l_As_76⟩ := bk4 H_As_76
                      replace H_As_76 := Lib.hid H_As_76
                      obtain ⟨k_Si_76_0, k_Si_76_1, k_Si_76_2, k_Si_76_3, f_Si_76, l_Si_76⟩ := bk4 H_Si_76
                      replace H_Si_76 := Lib.hid H_Si_76
                      obtain ⟨k_Ms_76_0, k_Ms_76_1, k_Ms_76_2, k_Ms_76_3, f_Ms_76, l_Ms_76⟩ := bk4 H_Ms_76
                      replace H_Ms_76 := Lib.hid H_Ms_76
                      obtain ⟨k_Ds_76_0, k_Ds_76_1, k_Ds_76_2, k_Ds_76_3, f_Ds_76, l_Ds_76⟩ := bk4 H_Ds_76
                      replace H_Ds_76 := Lib.hid H_Ds_76
                      obtain ⟨k_Hs_76_0, k_Hs_76_1, k_Hs_76_2, k_Hs_76_3, f_Hs_76, l_Hs_76⟩ := bk4 H_Hs_76
                      replace H_Hs_76 := Lib.hid H_Hs_76
                      obtain ⟨k_Cs_76_0, k_Cs_76_1, k_Cs_76_2, k_Cs_76_3, f_Cs_76, l_Cs_76⟩ := bk4 H_Cs_76
                      replace H_Cs_76 := Lib.hid H_Cs_76
                      obtain ⟨k_XS_76_0, k_XS_76_1, k_XS_76_2, k_XS_76_3, f_XS_76, l_XS_76⟩ := bk4 H_XS_76
                      replace H_XS_76 := Lib.hid H_XS_76
                      obtain ⟨k_X_76_0, k_X_76_1, f_X_76, l_X_76⟩ := bk2 H_X_76
                      replace H_X_76 := Lib.hid H_X_76
                      obtain ⟨k_YS_76_0, k_YS_76_1, k_YS_76_2, k_YS_76_3, f_YS_76, l_YS_76⟩ := bk4 H_YS_76
                      replace H_YS_76 := Lib.hid H_YS_76
                      obtain ⟨k_U_76_0, k_U_76_1, f_U_76, l_U_76⟩ := bk2 H_U_76
                      replace H_U_76 := Lib.hid H_U_76
                      obtain ⟨k_Df_76_0, k_Df_76_1, f_Df_76, l_Df_76⟩ := bk2 H_Df_76
                      replace H_Df_76 := Lib.hid H_Df_76
                      clear hb43 TD HB75 HBn sz1 sz2
                      go_cut [261] (fun sq wx => sq = .bool false ∧ Below w76.heap.size w76 wx)
                      case first =>
                        as_aux_lemma =>
                          clear Fs Fm Fd Fh Fc Fb hx hy HB76
                          cases od
                          · go_wp2_with fail
                            go_meet
                            exact ⟨rfl, by repeat' first | (with_reducible first | apply zRf | assumption | apply zDn | apply zDr | apply zAl | apply zSt | refine zVi (by assumption) ?_ ?_) | go_size⟩
                          · cases fo
                            · go_wp2_with fail
                              go_meet
                              exact ⟨rfl, by repeat' first | (with_reducible first | apply zRf | assumption | apply zDn | apply zDr | apply zAl | apply zSt | refine zVi (by assumption) ?_ ?_) | go_size⟩
                            · cases bq
                              · simp at FqD
                              · go_wp2_with (first | (have _t := tok45; go_at_call 19; (with_reducible refine ((TDq _).out).mono ?_); rintro e w45 ⟨rfl, hb45⟩; clear tok45 _t; have hz45 := hb45.size; (try simp only [World.size_alloc, World.size_setCell, World.size_drew, World.size_drewN'] at hz45)))
                                go_meet
                                exact ⟨rfl, by repeat' first | (with_reducible first | apply zRf | assumption | apply zDn | apply zDr | apply zAl | apply zSt | refine zVi (by assumption) ?_ ?_) | go_size⟩
                      case rest =>
                        obtain ⟨rfl, hb77⟩ := hcut
                        generalize wc = w77 at *
                        clear TDq FqD bq
                        clear k_Df_76_0
                        clear k_Df_76_1
                        clear f_Df_76 H_Df_76
                        have H_I_77 := (hb77.block (gI) (blk_lt' H_I_76.out)).trans H_I_76.out
                        clear k_I_76_0 k_I_76_1 k_I_76_2 k_I_76_3 f_I_76 H_I_76
                        obtain ⟨k_I_77_0, k_I_77_1, k_I_77_2, k_I_77_3, f_I_77, l_I_77⟩ := bk4 H_I_77
                        replace H_I_77 := Lib.hid H_I_77
                        have H_K_77 := (hb77.block (gK) (blk_lt' H_K_76.out)).trans H_K_76.out
                        clear k_K_76_0 k_K_76_1 k_K_76_2 k_K_76_3 f_K_76 H_K_76
                        obtain ⟨k_K_77_0, k_K_77_1, k_K_77_2, k_K_77_3, f_K_77, l_K_77⟩ := bk4 H_K_77
                        replace H_K_77 := Lib.hid H_K_77
                        have H_As_77 := (hb77.block (gA) (blk_lt' H_As_76.out)).trans H_As_76.out
                        clear k_As_76_0 k_As_76_1 k_As_76_2 k_As_76_3 f_As_76 H_As_76
                        obtain ⟨k_As_77_0, k_As_77_1, k_As_77_2, k_As_77_3, f_As_77, l_As_77⟩ := bk4 H_As_77
                        replace H_As_77 := Lib.hid H_As_77
                        have H_Si_77 := (hb77.block (gS) (blk_lt' H_Si_76.out)).trans H_Si_76.out
                        clear k_Si_76_0 k_Si_76_1 k_Si_76_2 k_Si_76_3 f_Si_76 H_Si_76
                        obtain ⟨k_Si_77_0, k_Si_77_1, k_Si_77_2, k_Si_77_3, f_Si_77, l_Si_77⟩ := bk4 H_Si_77
                        replace H_Si_77 := Lib.hid H_Si_77
                        have H_Ms_77 := (hb77.block (gM) (blk_lt' H_Ms_76.out)).trans H_Ms_76.out
                        clear k_Ms_76_0 k_Ms_76_1 k_Ms_76_2 k_Ms_76_3 f_Ms_76 H_Ms_76
                        obtain ⟨k_Ms_77_0, k_Ms_77_1, k_Ms_77_2, k_Ms_77_3, f_Ms_77, l_Ms_77⟩ := bk4 H_Ms_77
                        replace H_Ms_77 := Lib.hid H_Ms_77
                        have H_Ds_77 := (hb77.block (gD) (blk_lt' H_Ds_76.out)).trans H_Ds_76.out
                        clear k_Ds_76_0 k_Ds_76_1 k_Ds_76_2 k_Ds_76_3 f_Ds_76 H_Ds_76
                        obtain ⟨k_Ds_77_0, k_Ds_77_1, k_Ds_77_2, k_Ds_77_3, f_Ds_77, l_Ds_77⟩ := bk4 H_Ds_77
                        replace H_Ds_77 := Lib.hid H_Ds_77
                        have H_Hs_77 := (hb77.block (gH) (blk_lt' H_Hs_76.out)).trans H_Hs_76.out
                        clear k_Hs_76_0 k_Hs_76_1 k_Hs_76_2 k_Hs_76_3 f_Hs_76 H_Hs_76
                        obtain ⟨k_Hs_77_0, k_Hs_77_1, k_Hs_77_2, k_Hs_77_3, f_Hs_77, l_Hs_77⟩ := bk4 H_Hs_77
                        replace H_Hs_77 := Lib.hid H_Hs_77
                        have H_Cs_77 := (hb77.block (gC) (blk_lt' H_Cs_76.out)).trans H_Cs_76.out
                        clear k_Cs_76_0 k_Cs_76_1 k_Cs_76_2 k_Cs_76_3 f_Cs_76 H_Cs_76
                        obtain ⟨k_Cs_77_0, k_Cs_77_1, k_Cs_77_2, k_Cs_77_3, f_Cs_77, l_Cs_77⟩ := bk4 H_Cs_77
                        replace H_Cs_77 := Lib.hid H_Cs_77
                        have H_XS_77 := (hb77.block (w28.heap.size) (blk_lt' H_XS_76.out)).trans H_XS_76.out
                        clear k_XS_76_0 k_XS_76_1 k_XS_76_2 k_XS_76_3 f_XS_76 H_XS_76
                        obtain ⟨k_XS_77_0, k_XS_77_1, k_XS_77_2, k_XS_77_3, f_XS_77, l_XS_77⟩ := bk4 H_XS_77
                        replace H_XS_77 := Lib.hid H_XS_77
                        have H_X_77 := (hb77.block (gx) (blk_lt' H_X_76.out)).trans H_X_76.out
                        clear k_X_76_0 k_X_76_1 f_X_76 H_X_76
                        obtain ⟨k_X_77_0, k_X_77_1, f_X_77, l_X_77⟩ := bk2 H_X_77
                        replace H_X_77 := Lib.hid H_X_77
                        have H_YS_77 := (hb77.block (w32.heap.size) (blk_lt' H_YS_76.out)).trans H_YS_76.out
                        clear k_YS_76_0 k_YS_76_1 k_YS_76_2 k_YS_76_3 f_YS_76 H_YS_76
                        obtain ⟨k_YS_77_0, k_YS_77_1, k_YS_77_2, k_YS_77_3, f_YS_77, l_YS_77⟩ := bk4 H_YS_77
                        replace H_YS_77 := Lib.hid H_YS_77
                        have H_U_77 := (hb77.block (gu) (blk_lt' H_U_76.out)).trans H_U_76.out
                        clear k_U_76_0 k_U_76_1 f_U_76 H_U_76
                        obtain ⟨k_U_77_0, k_U_77_1, f_U_77, l_U_77⟩ := bk2 H_U_77
                        replace H_U_77 := Lib.hid H_U_77
                        have hB77 : Below w.heap.size w w77 := below_via hb77 (by assumption) (by first | exact hB76.size | go_size)
                        have HB77 := HB76.trans (hb77.mono HB76.size)
                        clear hb77 HB76
                        go_upto_region 33 with fail
                        have TH1 := fun W : World => Lib.hid (qIn_any H1 H2 H3 H4 x y W)
                        have TH2 := fun W : World => Lib.hid (qIn_any H1 H2 H3 H4 u v W)
                        go_cut [274] (fun sq wx => sq = .bool false ∧ Below w77.heap.size w77 wx)
                        case first =>
                          as_aux_lemma =>
                            have hh := Fh.out
                            clear Fs Fm Fd Fh Fc Fb HB77
                            cases oh
                            · go_wp2_with fail
                              go_meet
                              exact ⟨rfl, by repeat' first | (with_reducible first | apply zRf | assumption | apply zDn | apply zDr | apply zAl | apply zSt | refine zVi (by assumption) ?_ ?_) | go_size⟩
                            · rw [hh rfl x y (.inl hx)] at TH1
                              rw [hh rfl u v (.inr hy)] at TH2
                              clear hh hx hy
                              go_wp2_with (first | (have _t := tok47; go_at_call 19; (with_reducible refine ((TH1 _).out).mono ?_); rintro e w47 ⟨rfl, hb47⟩; clear tok47 _t; have hz47 := hb47.size; (try simp only [World.size_alloc, World.size_setCell, World.size_drew, World.size_drewN'] at hz47); (try (have kq := cellAt hb47 (gH) (by go_size); have k47_gH_0 := kq 0; have k47_gH_1 := kq 1; have k47_gH_2 := kq 2; have k47_gH_3 := kq 3; clear kq; have f47_gH := frozAt hb47 (gH) (by go_size); simp [go_sem, *] at k47_gH_0 k47_gH_1 k47_gH_2 k47_gH_3 f47_gH)); (try have l47_gH : gH < w47.heap.size := by omega); (try (have kq := cellAt hb47 (gx) (by go_size); have k47_gx_0 := kq 0; have k47_gx_1 := kq 1; clear kq; have f47_gx := frozAt hb47 (gx) (by go_size); simp [go_sem, *] at k47_gx_0 k47_gx_1 f47_gx)); (try have l47_gx : gx < w47.heap.size := by omega); (try (have kq := cellAt hb47 (gu) (by go_size); have k47_gu_0 := kq 0; have k47_gu_1 := kq 1; clear kq; have f47_gu := frozAt hb47 (gu) (by go_size); simp [go_sem, *] at k47_gu_0 k47_gu_1 f47_gu)); (try have l47_gu : gu < w47.heap.size := by omega); (try clear k43_gH_0 k43_gH_1 k43_gH_2 k43_gH_3 f43_gH); (try clear l43_gH); (try clear k43_gx_0 k43_gx_1 f43_gx); (try clear l43_gx); (try clear k43_gu_0 k43_gu_1 f43_gu); (try clear l43_gu); (try clear k44_gH_0 k44_gH_1 k44_gH_2 k44_gH_3 f44_gH); (try clear l44_gH); (try clear k44_gx_0 k44_gx_1 f44_gx); (try clear l44_gx); (try clear k44_gu_0 k44_gu_1 f44_gu); (try clear l44_gu); (try clear k45_gH_0 k45_gH_1 k45_gH_2 k45_gH_3 f45_gH); (try clear l45_gH); (try clear k45_gx_0 k45_gx_1 f45_gx); (try clear l45_gx); (try clear k45_gu_0 k45_gu_1 f45_gu); (try clear l45_gu); (try clear k46_gH_0 k46_gH_1 k46_gH_2 k46_gH_3 f46_gH); (try clear l46_gH); (try clear k46_gx_0 k46_gx_1 f46_gx); (try clear l46_gx); (try clear k46_gu_0 k46_gu_1 f46_gu); (try clear l46_gu)) | (have _t := tok48; go_at_call 19; (with_reducible refine ((TH2 _).out).mono ?_); rintro e w48 ⟨rfl, hb48⟩; clear tok48 _t; have hz48 := hb48.size; (try simp only [World.size_alloc, World.size_setCell, World.size_drew, World.size_drewN'] at hz48); (try (have kq := cellAt hb48 (gH) (by go_size); have k48_gH_0 := kq 0; have k48_gH_1 := kq 1; have k48_gH_2 := kq 2; have k48_gH_3 := kq 3; clear kq; have f48_gH := frozAt hb48 (gH) (by go_size); simp [go_sem, *] at k48_gH_0 k48_gH_1 k48_gH_2 k48_gH_3 f48_gH)); (try have l48_gH : gH < w48.heap.size := by omega); (try (have kq := cellAt hb48 (gx) (by go_size); have k48_gx_0 := kq 0; have k48_gx_1 := kq 1; clear kq; have f48_gx := frozAt hb48 (gx) (by go_size); simp [go_sem, *] at k48_gx_0 k48_gx_1 f48_gx)); (try have l48_gx : gx < w48.heap.size := by omega); (try (have kq := cellAt hb48 (gu) (by go_size); have k48_gu_0 := kq 0; have k48_gu_1 := kq 1; clear kq; have f48_gu := frozAt hb48 (gu) (by go_size); simp [go_sem, *] at k48_gu_0 k48_gu_1 f48_gu)); (try have l48_gu : gu < w48.heap.size := by omega); (try clear k44_gH_0 k44_gH_1 k44_gH_2 k44_gH_3 f44_gH); (try clear l44_gH); (try clear k44_gx_0 k44_gx_1 f44_gx); (try clear l44_gx); (try clear k44_gu_0 k44_gu_1 f44_gu); (try clear l44_gu); (try clear k45_gH_0 k45_gH_1 k45_gH_2 k45_gH_3 f45_gH); (try clear l45_gH); (try clear k45_gx_0 k45_gx_1 f45_gx); (try clear l45_gx); (try clear k45_gu_0 k45_gu_1 f45_gu); (try clear l45_gu); (try clear k46_gH_0 k46_gH_1 k46_gH_2 k46_gH_3 f46_gH); (try clear l46_gH); (try clear k46_gx_0 k46_gx_1 f46_gx); (try clear l46_gx); (try clear k46_gu_0 k46_gu_1 f46_gu); (try clear l46_gu); (try clear k47_gH_0 k47_gH_1 k47_gH_2 k47_gH_3 f47_gH); (try clear l47_gH); (try clear k47_gx_0 k47_gx_1 f47_gx); (try clear l47_gx); (try clear k47_gu_0 k47_gu_1 f47_gu); (try clear l47_gu)))
                              go_meet
                              exact ⟨rfl, by repeat' first | (with_reducible first | apply zRf | assumption | apply zDn | apply zDr | apply zAl | apply zSt | refine zVi (by assumption) ?_ ?_) | go_size⟩
                        case rest =>
                          obtain ⟨rfl, hb78⟩ := hcut
                          have HB78 := HB77.trans (hb78.mono HB77.size)
                          clear hb78 HB77 TH1 TH2
                          rcases hr2 with rfl | rfl
                          · go_wp2_with fail
                            go_roundw
                            case rel => first | exact ⟨.inl (.inr rfl), HB78⟩ | ((repeat (with_reducible apply Exists.intro)); exact ⟨⟨.inl (.inr rfl), HB78⟩, rfl⟩)
                            case measure => simp [intOf]
                          · go_wp2_with fail
                            go_roundw
                            case rel => first | exact ⟨.inr rfl, HB78⟩ | ((repeat (with_reducible apply Exists.intro)); exact ⟨⟨.inr rfl, HB78⟩, rfl⟩)
                            case measure => simp [intOf]
            · have HB34 := HB33.trans (hb34.mono HB33.size)
              clear hb34
              rcases hr with rfl | rfl
              · go_wp2_with fail
                go_roundw
                case rel => first | exact ⟨.inl (.inr rfl), HB34⟩ | ((repeat (with_reducible apply Exists.intro)); exact ⟨⟨.inl (.inr rfl), HB34⟩, rfl⟩)
                case measure => simp [intOf]
              · go_wp2_with fail
                go_roundw
                case rel => first | exact ⟨.inr rfl, HB34⟩ | ((repeat (with_reducible apply Exists.intro)); exact ⟨⟨.inr rfl, HB34⟩, rfl⟩)
                case measure => simp [intOf]
    · have _t := trivial
      iterate 60 (first | (exact FnIv_37 hB31 H_I_31.out H_K_31.out H_Si_31.out H_Ms_31.out H_Cs_31.out RX.out RY.out Fc.out Fb.out) | go_values | go_skip | go_guarded | go_step | go_upon | go_back | skip)
end Go.Proofs.Ythifeabcobgbmaa
