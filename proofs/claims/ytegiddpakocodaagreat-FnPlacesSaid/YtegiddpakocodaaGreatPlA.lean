/- Parts: FnPlaces: the primes that fail, FnPlaces: good primes, FnPlaces: squares modulo powers. -/
import Derived.Test.YtegiddpakocodaaGreatPq2
import Derived.Test.YtegiddpakocodaaGreatFk
import Derived.Test.YtegiddpakocodaaGreatBy
namespace Go.Proofs.YtegiddpakocodaaGreat
section
open Go.RowKit
set_option linter.unusedVariables false
set_option maxHeartbeats 0
set_option maxRecDepth 20000
set_option linter.unusedSimpArgs false

theorem FnPl_34 {D A C : Int} {ok ev real : Bool} {w W : World} {gQ n8 c8 n12 c12 : Nat} {a8 a12 : Option Addr} {L Bd : List Int} {u0 u1 u2 u3 u4 u6 u9 u10 u11 u13 u14 u15 u17 u18 u19 u21 u22 u23 u24 u25 u26 u27 u28 u29 u30 u31 u32 u33 u34 u35 u36 u37 u38 u39 u40 u41 u42 u43 u44 u45 u46 u47 u48 u49 u50 u51 u52 u53 u54 u55 u56 u57 u58 u59 u60 u61 u62 u63 u64 u65 u66 u67 u68 u69 u70 u71 u72 u73 u74 u75 u76 u77 u78 u79 u80 u81 u82 u83 u84 u85 u86 u87 u88 u89 u90 u91 u92 u93 u94 u95 u96 u97 u98 u99 u100 u101 u102 u103 u104 u105 u106 u107 u108 u109 u110 u111 u112 u113 u114 u115 u116 u117 u118 u119 u120 u121 u122 u123 u124 u125 u126 u127 u128 u129 u130 u131 u132 u133 u134 u135 u136 u137 u138 u139 u140 u141 u142 u143 u144 u145 u146 u147 u148 u149 u150 u151 u152 u153 u154 u155 u156 u157 u158 u159 u160 u161 u162 u163 u164 u165 u166 u167 u168 u169 u170 u171 u172 u173 u174 u175 u176 u177 u178 u179 u180 u181 u182 u183 u184 u185 u186 u187 u188 u189 u190 u191 u192 u193 u194 u195 u196 u197 u198 u199 u200 u201 u202 u203 u204 u205 u206 u207 u208 u209 u210 u211 u212 u213 u214 u215 u216 u217 u218 u219 u220 u221 u222 u223 u224 u225 u226 u227 u228 u229 u230 u231 u232 u233 u234 u235 u236 u237 u238 u239 u240 u241 u242 u243 u244 u245 u246 u247 u248 u249 u250 u251 u252 u253 u254 u255 u256 u257 u258 u259 u260 u261 u262 u263 u264 : Value}
    (hB : Below w.heap.size w W) (HQ : W.heap[gQ]? = some (.cells #[.int .i64 D, .int .i64 A, .int .i64 C] 24 (0, 0))) (hx8 : Sx W a8 n8 c8 L) (hx12 : Sx W a12 n12 c12 Bd) (hL : L.length ≤ 996) 
    (Fl : (ok = true → (∀ p ∈ L, p ∈ Bd ∧ RetC 20 #[.agg #[.int .i64 D, .int .i64 A, .int .i64 C], .int .i64 p] (.tuple #[.bool false, .bool true])) ∧ ev = (real && decide (L.length = 0))))
    : Code.wp Tryz.prog (dropTo 34 (bodyOf Tryz.f3)) (bodyPost Tryz.prog Tryz.f3 fun e w' => e = .returned (.bool true) ∧ Below w.heap.size w w') { tmps := #[u0, u1, u2, u3, u4, .pointer (some ⟨gQ, 0, none⟩), u6, .bool ok, .slice a8 n8 c8, u9, u10, u11, .slice a12 n12 c12, u13, u14, u15, .bool ev, u17, u18, u19, .bool real, u21, u22, u23, u24, u25, u26, u27, u28, u29, u30, u31, u32, u33, u34, u35, u36, u37, u38, u39, u40, u41, u42, u43, u44, u45, u46, u47, u48, u49, u50, u51, u52, u53, u54, u55, u56, u57, u58, u59, u60, u61, u62, u63, u64, u65, u66, u67, u68, u69, u70, u71, u72, u73, u74, u75, u76, u77, u78, u79, u80, u81, u82, u83, u84, u85, u86, u87, u88, u89, u90, u91, u92, u93, u94, u95, u96, u97, u98, u99, u100, u101, u102, u103, u104, u105, u106, u107, u108, u109, u110, u111, u112, u113, u114, u115, u116, u117, u118, u119, u120, u121, u122, u123, u124, u125, u126, u127, u128, u129, u130, u131, u132, u133, u134, u135, u136, u137, u138, u139, u140, u141, u142, u143, u144, u145, u146, u147, u148, u149, u150, u151, u152, u153, u154, u155, u156, u157, u158, u159, u160, u161, u162, u163, u164, u165, u166, u167, u168, u169, u170, u171, u172, u173, u174, u175, u176, u177, u178, u179, u180, u181, u182, u183, u184, u185, u186, u187, u188, u189, u190, u191, u192, u193, u194, u195, u196, u197, u198, u199, u200, u201, u202, u203, u204, u205, u206, u207, u208, u209, u210, u211, u212, u213, u214, u215, u216, u217, u218, u219, u220, u221, u222, u223, u224, u225, u226, u227, u228, u229, u230, u231, u232, u233, u234, u235, u236, u237, u238, u239, u240, u241, u242, u243, u244, u245, u246, u247, u248, u249, u250, u251, u252, u253, u254, u255, u256, u257, u258, u259, u260, u261, u262, u263, u264], defers := [] } W := by
  replace Fl := Lib.hid Fl
  have hn8 := hx8.len
  have tok11 : True := trivial
  have tok12 : True := trivial
  conv in dropTo _ _ => whnf
  dsimp only
  refine chk (fun W => Below w.heap.size w W ∧ W.heap[gQ]? = some (.cells #[.int .i64 D, .int .i64 A, .int .i64 C] 24 (0, 0)) ∧ Sx W a8 n8 c8 L ∧ Sx W a12 n12 c12 Bd) (by refine ⟨?_, ?_, ?_, ?_⟩ <;> (repeat' first | (with_reducible first | assumption | (apply Ne.symm; assumption) | apply Nat.le_refl | apply Nat.le_add_right | apply zL | apply zRf | apply Wx.box | apply Wx.box4 | apply zWa | apply Wx.drew | apply zWn | apply bx_drew | apply bx_drewN | apply bx_set3 | apply bx_set2 | apply bx_set4 | apply bx_set1) | ((with_reducible apply bx_new); (focus (go_size; done))) | (with_reducible first | apply zOl | apply zFa | apply zDn | apply zDr | apply zAl | apply zSt | refine zVi (by assumption) ?_ ?_) | go_size | omega)) ?_
  rintro w2 ⟨hB2, H_Q_2, hS8, hS12⟩
  obtain ⟨k_Q_2_0, k_Q_2_1, k_Q_2_2, f_Q_2, l_Q_2⟩ := bk3 H_Q_2
  replace H_Q_2 := Lib.hid H_Q_2
  clear hB HQ hx8 hx12
  cases ok
  · go_wp2_with fail
    go_ret
    refine ⟨rfl, ?_⟩
    repeat' first | (with_reducible first | apply zRf | assumption | apply zDn | apply zDr | apply zAl | apply zSt | refine zVi (by assumption) ?_ ?_) | go_size
  · obtain ⟨hp, he⟩ := Fl.out rfl
    replace hp := Lib.hid hp
    replace he := Lib.hid he
    clear Fl
    go_upto_region 37 with fail
    go_loopw [235] (fun iv wr => ∃ k : Nat, k ≤ n8 ∧ iv = .int .i64 k ∧ Below w2.heap.size w2 wr) (fun iv _ => (n8 - intOf iv).toNat)
    case atStart => exact ⟨0, by omega, rfl, Below.refl _ _⟩
    case round =>
      obtain ⟨k, hk, rfl, hb9⟩ := hrel
      rename World => w9
      have H_Q_9 := (hb9.block (gQ) (blk_lt' H_Q_2.out)).trans H_Q_2.out
      clear k_Q_2_0 k_Q_2_1 k_Q_2_2 f_Q_2 H_Q_2
      obtain ⟨k_Q_9_0, k_Q_9_1, k_Q_9_2, f_Q_9, l_Q_9⟩ := bk3 H_Q_9
      replace H_Q_9 := Lib.hid H_Q_9
      have hB9 : Below w.heap.size w w9 := below_via hb9 (by assumption) (by first | exact hB2.size | go_size)
      have sz9 := hb9.size
      by_cases hkn : k < n8
      · obtain ⟨hm, R⟩ := hp.out (L[k]?.getD 0) (at_mem (by omega))
        obtain ⟨b8, o8, rfl, hb8, hcs⟩ := (hS8.below hb9).at (by omega)
        have c0 := hcs k hkn
        obtain ⟨p, hpp⟩ : ∃ p, L[k]?.getD 0 = p := ⟨_, rfl⟩
        rw [hpp] at c0 hm R
        have T11 := fun W : World => Lib.hid (R W)
        have T12 := fun (W : World) (hW : Below w2.heap.size w2 W) => Lib.hid (qHas_yes (hS12.below hW) hm)
        have hkc : (k : Int) < (n8 : Int) := by omega
        clear hp he hcs R hpp hm
        go_upto_region 40 with (first | (have _t := tok11; go_at_call 20; (with_reducible refine ((T11 _).out).mono ?_); rintro e w11 ⟨rfl, hb11⟩; clear tok11 _t; have hz11 := hb11.size; (try simp only [World.size_alloc, World.size_setCell, World.size_drew, World.size_drewN'] at hz11); (try (have kq := cellAt hb11 (gQ) (by go_size); have k11_gQ_0 := kq 0; have k11_gQ_1 := kq 1; have k11_gQ_2 := kq 2; clear kq; have f11_gQ := frozAt hb11 (gQ) (by go_size); simp [go_sem, *] at k11_gQ_0 k11_gQ_1 k11_gQ_2 f11_gQ)); (try have l11_gQ : gQ < w11.heap.size := by omega); (try clear k7_gQ_0 k7_gQ_1 k7_gQ_2 f7_gQ); (try clear l7_gQ); (try clear k8_gQ_0 k8_gQ_1 k8_gQ_2 f8_gQ); (try clear l8_gQ); (try clear k9_gQ_0 k9_gQ_1 k9_gQ_2 f9_gQ); (try clear l9_gQ); (try clear k10_gQ_0 k10_gQ_1 k10_gQ_2 f10_gQ); (try clear l10_gQ)))
        have HB11 := hb9.trans (hb11.mono hb9.size)
        have sz11 := HB11.size
        go_wp2_with (first | (have _t := tok12; go_at_call 19; (with_reducible refine ((T12 _ (by repeat' first | (with_reducible first | apply zRf | assumption | apply zDn | apply zDr | apply zAl | apply zSt | refine zVi (by assumption) ?_ ?_) | go_size)).out).mono ?_); rintro e w12 ⟨rfl, hb12⟩; clear tok12 _t; have hz12 := hb12.size; (try simp only [World.size_alloc, World.size_setCell, World.size_drew, World.size_drewN'] at hz12)))
        go_roundw
        case rel => first | exact ⟨k + 1, by omega, by first | rfl | go_num, by repeat' first | (with_reducible first | apply zRf | assumption | apply zDn | apply zDr | apply zAl | apply zSt | refine zVi (by assumption) ?_ ?_) | go_size⟩ | ((repeat (with_reducible apply Exists.intro)); exact ⟨⟨k + 1, by omega, by first | rfl | go_num, by repeat' first | (with_reducible first | apply zRf | assumption | apply zDn | apply zDr | apply zAl | apply zSt | refine zVi (by assumption) ?_ ?_) | go_size⟩, rfl⟩)
        case measure => simp [intOf]; omega
      · obtain rfl : k = n8 := by omega
        replace he := he.out
        rw [hn8] at he
        clear hp
        cases real
        · rw [Bool.false_and] at he
          subst he
          go_wp2_with fail
          go_ret
          refine ⟨rfl, ?_⟩
          repeat' first | (with_reducible first | apply zRf | assumption | apply zDn | apply zDr | apply zAl | apply zSt | refine zVi (by assumption) ?_ ?_) | go_size
        · rw [Bool.true_and] at he
          by_cases h0 : k = 0
          · subst h0
            rw [decide_eq_true rfl] at he
            subst he
            go_wp2_with fail
            go_ret
            refine ⟨rfl, ?_⟩
            repeat' first | (with_reducible first | apply zRf | assumption | apply zDn | apply zDr | apply zAl | apply zSt | refine zVi (by assumption) ?_ ?_) | go_size
          · rw [decide_eq_false h0] at he
            subst he
            have g1 : ((k : Int) == 0) = false := by simpa using h0
            go_wp2_with fail
            go_ret
            refine ⟨rfl, ?_⟩
            repeat' first | (with_reducible first | apply zRf | assumption | apply zDn | apply zDr | apply zAl | apply zSt | refine zVi (by assumption) ?_ ?_) | go_size
end
section
open Go.RowKit
set_option linter.unusedVariables false
set_option maxHeartbeats 0
set_option maxRecDepth 20000
set_option linter.unusedSimpArgs false

theorem FnPl_25 {D A C : Int} {one ok ev real : Bool} {w W : World} {gQ n8 c8 n12 c12 : Nat} {a8 a12 : Option Addr} {L Bd : List Int} {u0 u1 u2 u3 u4 u6 u9 u10 u13 u14 u15 u17 u18 u19 u21 u22 u23 u24 u25 u26 u27 u28 u29 u30 u31 u32 u33 u34 u35 u36 u37 u38 u39 u40 u41 u42 u43 u44 u45 u46 u47 u48 u49 u50 u51 u52 u53 u54 u55 u56 u57 u58 u59 u60 u61 u62 u63 u64 u65 u66 u67 u68 u69 u70 u71 u72 u73 u74 u75 u76 u77 u78 u79 u80 u81 u82 u83 u84 u85 u86 u87 u88 u89 u90 u91 u92 u93 u94 u95 u96 u97 u98 u99 u100 u101 u102 u103 u104 u105 u106 u107 u108 u109 u110 u111 u112 u113 u114 u115 u116 u117 u118 u119 u120 u121 u122 u123 u124 u125 u126 u127 u128 u129 u130 u131 u132 u133 u134 u135 u136 u137 u138 u139 u140 u141 u142 u143 u144 u145 u146 u147 u148 u149 u150 u151 u152 u153 u154 u155 u156 u157 u158 u159 u160 u161 u162 u163 u164 u165 u166 u167 u168 u169 u170 u171 u172 u173 u174 u175 u176 u177 u178 u179 u180 u181 u182 u183 u184 u185 u186 u187 u188 u189 u190 u191 u192 u193 u194 u195 u196 u197 u198 u199 u200 u201 u202 u203 u204 u205 u206 u207 u208 u209 u210 u211 u212 u213 u214 u215 u216 u217 u218 u219 u220 u221 u222 u223 u224 u225 u226 u227 u228 u229 u230 u231 u232 u233 u234 u235 u236 u237 u238 u239 u240 u241 u242 u243 u244 u245 u246 u247 u248 u249 u250 u251 u252 u253 u254 u255 u256 u257 u258 u259 u260 u261 u262 u263 u264 : Value}
    (hB : Below w.heap.size w W) (HQ : W.heap[gQ]? = some (.cells #[.int .i64 D, .int .i64 A, .int .i64 C] 24 (0, 0))) (hx8 : Sx W a8 n8 c8 L) (hx12 : Sx W a12 n12 c12 Bd) (hL : L.length ≤ 996) 
    (Fb : (one = true → ∀ p : Int, p = 3 ∨ p = 7 ∨ p = 13 → p ∉ Bd → RetC 20 #[.agg #[.int .i64 D, .int .i64 A, .int .i64 C], .int .i64 p] (.tuple #[.bool true, .bool true])))
    (Fl : (ok = true → (∀ p ∈ L, p ∈ Bd ∧ RetC 20 #[.agg #[.int .i64 D, .int .i64 A, .int .i64 C], .int .i64 p] (.tuple #[.bool false, .bool true])) ∧ ev = (real && decide (L.length = 0))))
    : Code.wp Tryz.prog (dropTo 25 (bodyOf Tryz.f3)) (bodyPost Tryz.prog Tryz.f3 fun e w' => e = .returned (.bool true) ∧ Below w.heap.size w w') { tmps := #[u0, u1, u2, u3, u4, .pointer (some ⟨gQ, 0, none⟩), u6, .bool ok, .slice a8 n8 c8, u9, u10, .bool one, .slice a12 n12 c12, u13, u14, u15, .bool ev, u17, u18, u19, .bool real, u21, u22, u23, u24, u25, u26, u27, u28, u29, u30, u31, u32, u33, u34, u35, u36, u37, u38, u39, u40, u41, u42, u43, u44, u45, u46, u47, u48, u49, u50, u51, u52, u53, u54, u55, u56, u57, u58, u59, u60, u61, u62, u63, u64, u65, u66, u67, u68, u69, u70, u71, u72, u73, u74, u75, u76, u77, u78, u79, u80, u81, u82, u83, u84, u85, u86, u87, u88, u89, u90, u91, u92, u93, u94, u95, u96, u97, u98, u99, u100, u101, u102, u103, u104, u105, u106, u107, u108, u109, u110, u111, u112, u113, u114, u115, u116, u117, u118, u119, u120, u121, u122, u123, u124, u125, u126, u127, u128, u129, u130, u131, u132, u133, u134, u135, u136, u137, u138, u139, u140, u141, u142, u143, u144, u145, u146, u147, u148, u149, u150, u151, u152, u153, u154, u155, u156, u157, u158, u159, u160, u161, u162, u163, u164, u165, u166, u167, u168, u169, u170, u171, u172, u173, u174, u175, u176, u177, u178, u179, u180, u181, u182, u183, u184, u185, u186, u187, u188, u189, u190, u191, u192, u193, u194, u195, u196, u197, u198, u199, u200, u201, u202, u203, u204, u205, u206, u207, u208, u209, u210, u211, u212, u213, u214, u215, u216, u217, u218, u219, u220, u221, u222, u223, u224, u225, u226, u227, u228, u229, u230, u231, u232, u233, u234, u235, u236, u237, u238, u239, u240, u241, u242, u243, u244, u245, u246, u247, u248, u249, u250, u251, u252, u253, u254, u255, u256, u257, u258, u259, u260, u261, u262, u263, u264], defers := [] } W := by
  replace Fb := Lib.hid Fb
  replace Fl := Lib.hid Fl
  have hn8 := hx8.len
  have tok11 : True := trivial
  have tok12 : True := trivial
  conv in dropTo _ _ => whnf
  dsimp only
  refine chk (fun W => Below w.heap.size w W ∧ W.heap[gQ]? = some (.cells #[.int .i64 D, .int .i64 A, .int .i64 C] 24 (0, 0)) ∧ Sx W a8 n8 c8 L ∧ Sx W a12 n12 c12 Bd) (by refine ⟨?_, ?_, ?_, ?_⟩ <;> (repeat' first | (with_reducible first | assumption | (apply Ne.symm; assumption) | apply Nat.le_refl | apply Nat.le_add_right | apply zL | apply zRf | apply Wx.box | apply Wx.box4 | apply zWa | apply Wx.drew | apply zWn | apply bx_drew | apply bx_drewN | apply bx_set3 | apply bx_set2 | apply bx_set4 | apply bx_set1) | ((with_reducible apply bx_new); (focus (go_size; done))) | (with_reducible first | apply zOl | apply zFa | apply zDn | apply zDr | apply zAl | apply zSt | refine zVi (by assumption) ?_ ?_) | go_size | omega)) ?_
  rintro w2 ⟨hB2, H_Q_2, hS8, hS12⟩
  obtain ⟨k_Q_2_0, k_Q_2_1, k_Q_2_2, f_Q_2, l_Q_2⟩ := bk3 H_Q_2
  replace H_Q_2 := Lib.hid H_Q_2
  clear hB HQ hx8 hx12
  cases one
  · have _t := trivial
    iterate 90 (first | ((with_reducible show Code.wp _ (.seq (.seq (.region 34 _ _) _) _) _ _ _); exact FnPl_34 hB2 H_Q_2.out (hS8) (hS12) hL Fl.out) | go_values | go_skip | go_guarded | go_step | go_upon | go_back | skip)
  · have hb := Lib.hid (Fb.out rfl)
    clear Fb
    go_upto_region 27 with fail
    have sz2 := hB2.size
    replace H_Q_2 := H_Q_2.out
    refine chk (fun W => Below w.heap.size w W ∧ W.heap[gQ]? = some (.cells #[.int .i64 D, .int .i64 A, .int .i64 C] 24 (0, 0)) ∧ W.heap[w2.heap.size]? = some (.cells #[.int .i64 3, .int .i64 7, .int .i64 13] 3 (0, 0)) ∧ Below w2.heap.size w2 W) (by refine ⟨?_, ?_, ?_, ?_⟩ <;> (repeat' first | (with_reducible first | assumption | (apply Ne.symm; assumption) | apply Nat.le_refl | apply Nat.le_add_right | apply zL | apply zRf | apply Wx.box | apply Wx.box4 | apply zWa | apply Wx.drew | apply zWn | apply bx_drew | apply bx_drewN | apply bx_set3 | apply bx_set2 | apply bx_set4 | apply bx_set1) | ((with_reducible apply bx_new); (focus (go_size; done))) | (with_reducible first | apply zOl | apply zFa | apply zDn | apply zDr | apply zAl | apply zSt | refine zVi (by assumption) ?_ ?_) | go_size | omega)) ?_
    clear k_Q_2_0 k_Q_2_1 k_Q_2_2 f_Q_2 H_Q_2
    clear hB2
    rintro w5 ⟨hB5, H_Q_5, H_L_5, HBn⟩
    obtain ⟨k_Q_5_0, k_Q_5_1, k_Q_5_2, f_Q_5, l_Q_5⟩ := bk3 H_Q_5
    replace H_Q_5 := Lib.hid H_Q_5
    obtain ⟨k_L_5_0, k_L_5_1, k_L_5_2, f_L_5, l_L_5⟩ := bk3 H_L_5
    replace H_L_5 := Lib.hid H_L_5
    have hR8 := hS8.below HBn
    have hR12 := hS12.below HBn
    clear hS8 hS12 HBn
    go_loopw [211] (fun iv wr => ∃ k : Nat, k ≤ 3 ∧ iv = .int .i64 k ∧ Below w5.heap.size w5 wr) (fun iv _ => (3 - intOf iv).toNat)
    case atStart => exact ⟨0, by omega, rfl, Below.refl _ _⟩
    case round =>
      obtain ⟨k, hk, rfl, hb9⟩ := hrel
      rename World => w9
      have H_Q_9 := (hb9.block (gQ) (blk_lt' H_Q_5.out)).trans H_Q_5.out
      clear k_Q_5_0 k_Q_5_1 k_Q_5_2 f_Q_5 H_Q_5
      obtain ⟨k_Q_9_0, k_Q_9_1, k_Q_9_2, f_Q_9, l_Q_9⟩ := bk3 H_Q_9
      replace H_Q_9 := Lib.hid H_Q_9
      have H_L_9 := (hb9.block (w2.heap.size) (blk_lt' H_L_5.out)).trans H_L_5.out
      clear k_L_5_0 k_L_5_1 k_L_5_2 f_L_5 H_L_5
      obtain ⟨k_L_9_0, k_L_9_1, k_L_9_2, f_L_9, l_L_9⟩ := bk3 H_L_9
      replace H_L_9 := Lib.hid H_L_9
      have hB9 : Below w.heap.size w w9 := below_via hb9 (by assumption) (by first | exact hB5.size | go_size)
      have sz9 := hb9.size
      rcases (show k = 0 ∨ k = 1 ∨ k = 2 ∨ k = 3 by omega) with rfl | rfl | rfl | rfl
      · by_cases hm : (3 : Int) ∈ Bd
        · have T11 := fun (W : World) (hW : Below w5.heap.size w5 W) => Lib.hid (qHas_yes (hR12.below hW) hm)
          have T12 := T11
          clear hb hm
          go_wp2_with (first | (first | (have _t := tok11; go_at_call 19; (with_reducible refine ((T11 _ (by repeat' first | (with_reducible first | apply zRf | assumption | apply zDn | apply zDr | apply zAl | apply zSt | refine zVi (by assumption) ?_ ?_) | go_size)).out).mono ?_); rintro e w11 ⟨rfl, hb11⟩; clear tok11 _t; have hz11 := hb11.size; (try simp only [World.size_alloc, World.size_setCell, World.size_drew, World.size_drewN'] at hz11); (try (have kq := cellAt hb11 (gQ) (by go_size); have k11_gQ_0 := kq 0; have k11_gQ_1 := kq 1; have k11_gQ_2 := kq 2; clear kq; have f11_gQ := frozAt hb11 (gQ) (by go_size); simp [go_sem, *] at k11_gQ_0 k11_gQ_1 k11_gQ_2 f11_gQ)); (try have l11_gQ : gQ < w11.heap.size := by omega); (try (have kq := cellAt hb11 (w2.heap.size) (by go_size); have k11_w2_0_0 := kq 0; have k11_w2_0_1 := kq 1; have k11_w2_0_2 := kq 2; clear kq; have f11_w2_0 := frozAt hb11 (w2.heap.size) (by go_size); simp [go_sem, *] at k11_w2_0_0 k11_w2_0_1 k11_w2_0_2 f11_w2_0)); (try have l11_w2_0 : w2.heap.size < w11.heap.size := by omega); (try clear k7_gQ_0 k7_gQ_1 k7_gQ_2 f7_gQ); (try clear l7_gQ); (try clear k7_w2_0_0 k7_w2_0_1 k7_w2_0_2 f7_w2_0); (try clear l7_w2_0); (try clear k8_gQ_0 k8_gQ_1 k8_gQ_2 f8_gQ); (try clear l8_gQ); (try clear k8_w2_0_0 k8_w2_0_1 k8_w2_0_2 f8_w2_0); (try clear l8_w2_0); (try clear k9_gQ_0 k9_gQ_1 k9_gQ_2 f9_gQ); (try clear l9_gQ); (try clear k9_w2_0_0 k9_w2_0_1 k9_w2_0_2 f9_w2_0); (try clear l9_w2_0); (try clear k10_gQ_0 k10_gQ_1 k10_gQ_2 f10_gQ); (try clear l10_gQ); (try clear k10_w2_0_0 k10_w2_0_1 k10_w2_0_2 f10_w2_0); (try clear l10_w2_0))) | (first | (have _t := tok12; go_at_call 20; (with_reducible refine ((T12 _).out).mono ?_); rintro e w12 ⟨rfl, hb12⟩; clear tok12 _t; have hz12 := hb12.size; (try simp only [World.size_alloc, World.size_setCell, World.size_drew, World.size_drewN'] at hz12))))
          go_roundw
          case rel => first | exact ⟨1, by omega, by first | rfl | go_num, by repeat' first | (with_reducible first | apply zRf | assumption | apply zDn | apply zDr | apply zAl | apply zSt | refine zVi (by assumption) ?_ ?_) | go_size⟩ | ((repeat (with_reducible apply Exists.intro)); exact ⟨⟨1, by omega, by first | rfl | go_num, by repeat' first | (with_reducible first | apply zRf | assumption | apply zDn | apply zDr | apply zAl | apply zSt | refine zVi (by assumption) ?_ ?_) | go_size⟩, rfl⟩)
          case measure => simp [intOf]
        · have R := hb.out 3 (by omega) hm
          have T11 := fun (W : World) (hW : Below w5.heap.size w5 W) => Lib.hid (qHas_no (hR12.below hW) hm)
          have T12 := fun W : World => Lib.hid (R W)
          clear hb hm R
          go_wp2_with (first | (first | (have _t := tok11; go_at_call 19; (with_reducible refine ((T11 _ (by repeat' first | (with_reducible first | apply zRf | assumption | apply zDn | apply zDr | apply zAl | apply zSt | refine zVi (by assumption) ?_ ?_) | go_size)).out).mono ?_); rintro e w11 ⟨rfl, hb11⟩; clear tok11 _t; have hz11 := hb11.size; (try simp only [World.size_alloc, World.size_setCell, World.size_drew, World.size_drewN'] at hz11); (try (have kq := cellAt hb11 (gQ) (by go_size); have k11_gQ_0 := kq 0; have k11_gQ_1 := kq 1; have k11_gQ_2 := kq 2; clear kq; have f11_gQ := frozAt hb11 (gQ) (by go_size); simp [go_sem, *] at k11_gQ_0 k11_gQ_1 k11_gQ_2 f11_gQ)); (try have l11_gQ : gQ < w11.heap.size := by omega); (try (have kq := cellAt hb11 (w2.heap.size) (by go_size); have k11_w2_0_0 := kq 0; have k11_w2_0_1 := kq 1; have k11_w2_0_2 := kq 2; clear kq; have f11_w2_0 := frozAt hb11 (w2.heap.size) (by go_size); simp [go_sem, *] at k11_w2_0_0 k11_w2_0_1 k11_w2_0_2 f11_w2_0)); (try have l11_w2_0 : w2.heap.size < w11.heap.size := by omega); (try clear k7_gQ_0 k7_gQ_1 k7_gQ_2 f7_gQ); (try clear l7_gQ); (try clear k7_w2_0_0 k7_w2_0_1 k7_w2_0_2 f7_w2_0); (try clear l7_w2_0); (try clear k8_gQ_0 k8_gQ_1 k8_gQ_2 f8_gQ); (try clear l8_gQ); (try clear k8_w2_0_0 k8_w2_0_1 k8_w2_0_2 f8_w2_0); (try clear l8_w2_0); (try clear k9_gQ_0 k9_gQ_1 k9_gQ_2 f9_gQ); (try clear l9_gQ); (try clear k9_w2_0_0 k9_w2_0_1 k9_w2_0_2 f9_w2_0); (try clear l9_w2_0); (try clear k10_gQ_0 k10_gQ_1 k10_gQ_2 f10_gQ); (try clear l10_gQ); (try clear k10_w2_0_0 k10_w2_0_1 k10_w2_0_2 f10_w2_0); (try clear l10_w2_0))) | (first | (have _t := tok12; go_at_call 20; (with_reducible refine ((T12 _).out).mono ?_); rintro e w12 ⟨rfl, hb12⟩; clear tok12 _t; have hz12 := hb12.size; (try simp only [World.size_alloc, World.size_setCell, World.size_drew, World.size_drewN'] at hz12))))
          go_roundw
          case rel => first | exact ⟨1, by omega, by first | rfl | go_num, by repeat' first | (with_reducible first | apply zRf | assumption | apply zDn | apply zDr | apply zAl | apply zSt | refine zVi (by assumption) ?_ ?_) | go_size⟩ | ((repeat (with_reducible apply Exists.intro)); exact ⟨⟨1, by omega, by first | rfl | go_num, by repeat' first | (with_reducible first | apply zRf | assumption | apply zDn | apply zDr | apply zAl | apply zSt | refine zVi (by assumption) ?_ ?_) | go_size⟩, rfl⟩)
          case measure => simp [intOf]
      · by_cases hm : (7 : Int) ∈ Bd
        · have T11 := fun (W : World) (hW : Below w5.heap.size w5 W) => Lib.hid (qHas_yes (hR12.below hW) hm)
          have T12 := T11
          clear hb hm
          go_wp2_with (first | (first | (have _t := tok11; go_at_call 19; (with_reducible refine ((T11 _ (by repeat' first | (with_reducible first | apply zRf | assumption | apply zDn | apply zDr | apply zAl | apply zSt | refine zVi (by assumption) ?_ ?_) | go_size)).out).mono ?_); rintro e w11 ⟨rfl, hb11⟩; clear tok11 _t; have hz11 := hb11.size; (try simp only [World.size_alloc, World.size_setCell, World.size_drew, World.size_drewN'] at hz11); (try (have kq := cellAt hb11 (gQ) (by go_size); have k11_gQ_0 := kq 0; have k11_gQ_1 := kq 1; have k11_gQ_2 := kq 2; clear kq; have f11_gQ := frozAt hb11 (gQ) (by go_size); simp [go_sem, *] at k11_gQ_0 k11_gQ_1 k11_gQ_2 f11_gQ)); (try have l11_gQ : gQ < w11.heap.size := by omega); (try (have kq := cellAt hb11 (w2.heap.size) (by go_size); have k11_w2_0_0 := kq 0; have k11_w2_0_1 := kq 1; have k11_w2_0_2 := kq 2; clear kq; have f11_w2_0 := frozAt hb11 (w2.heap.size) (by go_size); simp [go_sem, *] at k11_w2_0_0 k11_w2_0_1 k11_w2_0_2 f11_w2_0)); (try have l11_w2_0 : w2.heap.size < w11.heap.size := by omega); (try clear k7_gQ_0 k7_gQ_1 k7_gQ_2 f7_gQ); (try clear l7_gQ); (try clear k7_w2_0_0 k7_w2_0_1 k7_w2_0_2 f7_w2_0); (try clear l7_w2_0); (try clear k8_gQ_0 k8_gQ_1 k8_gQ_2 f8_gQ); (try clear l8_gQ); (try clear k8_w2_0_0 k8_w2_0_1 k8_w2_0_2 f8_w2_0); (try clear l8_w2_0); (try clear k9_gQ_0 k9_gQ_1 k9_gQ_2 f9_gQ); (try clear l9_gQ); (try clear k9_w2_0_0 k9_w2_0_1 k9_w2_0_2 f9_w2_0); (try clear l9_w2_0); (try clear k10_gQ_0 k10_gQ_1 k10_gQ_2 f10_gQ); (try clear l10_gQ); (try clear k10_w2_0_0 k10_w2_0_1 k10_w2_0_2 f10_w2_0); (try clear l10_w2_0))) | (first | (have _t := tok12; go_at_call 20; (with_reducible refine ((T12 _).out).mono ?_); rintro e w12 ⟨rfl, hb12⟩; clear tok12 _t; have hz12 := hb12.size; (try simp only [World.size_alloc, World.size_setCell, World.size_drew, World.size_drewN'] at hz12))))
          go_roundw
          case rel => first | exact ⟨2, by omega, by first | rfl | go_num, by repeat' first | (with_reducible first | apply zRf | assumption | apply zDn | apply zDr | apply zAl | apply zSt | refine zVi (by assumption) ?_ ?_) | go_size⟩ | ((repeat (with_reducible apply Exists.intro)); exact ⟨⟨2, by omega, by first | rfl | go_num, by repeat' first | (with_reducible first | apply zRf | assumption | apply zDn | apply zDr | apply zAl | apply zSt | refine zVi (by assumption) ?_ ?_) | go_size⟩, rfl⟩)
          case measure => simp [intOf]
        · have R := hb.out 7 (by omega) hm
          have T11 := fun (W : World) (hW : Below w5.heap.size w5 W) => Lib.hid (qHas_no (hR12.below hW) hm)
          have T12 := fun W : World => Lib.hid (R W)
          clear hb hm R
          go_wp2_with (first | (first | (have _t := tok11; go_at_call 19; (with_reducible refine ((T11 _ (by repeat' first | (with_reducible first | apply zRf | assumption | apply zDn | apply zDr | apply zAl | apply zSt | refine zVi (by assumption) ?_ ?_) | go_size)).out).mono ?_); rintro e w11 ⟨rfl, hb11⟩; clear tok11 _t; have hz11 := hb11.size; (try simp only [World.size_alloc, World.size_setCell, World.size_drew, World.size_drewN'] at hz11); (try (have kq := cellAt hb11 (gQ) (by go_size); have k11_gQ_0 := kq 0; have k11_gQ_1 := kq 1; have k11_gQ_2 := kq 2; clear kq; have f11_gQ := frozAt hb11 (gQ) (by go_size); simp [go_sem, *] at k11_gQ_0 k11_gQ_1 k11_gQ_2 f11_gQ)); (try have l11_gQ : gQ < w11.heap.size := by omega); (try (have kq := cellAt hb11 (w2.heap.size) (by go_size); have k11_w2_0_0 := kq 0; have k11_w2_0_1 := kq 1; have k11_w2_0_2 := kq 2; clear kq; have f11_w2_0 := frozAt hb11 (w2.heap.size) (by go_size); simp [go_sem, *] at k11_w2_0_0 k11_w2_0_1 k11_w2_0_2 f11_w2_0)); (try have l11_w2_0 : w2.heap.size < w11.heap.size := by omega); (try clear k7_gQ_0 k7_gQ_1 k7_gQ_2 f7_gQ); (try clear l7_gQ); (try clear k7_w2_0_0 k7_w2_0_1 k7_w2_0_2 f7_w2_0); (try clear l7_w2_0); (try clear k8_gQ_0 k8_gQ_1 k8_gQ_2 f8_gQ); (try clear l8_gQ); (try clear k8_w2_0_0 k8_w2_0_1 k8_w2_0_2 f8_w2_0); (try clear l8_w2_0); (try clear k9_gQ_0 k9_gQ_1 k9_gQ_2 f9_gQ); (try clear l9_gQ); (try clear k9_w2_0_0 k9_w2_0_1 k9_w2_0_2 f9_w2_0); (try clear l9_w2_0); (try clear k10_gQ_0 k10_gQ_1 k10_gQ_2 f10_gQ); (try clear l10_gQ); (try clear k10_w2_0_0 k10_w2_0_1 k10_w2_0_2 f10_w2_0); (try clear l10_w2_0))) | (first | (have _t := tok12; go_at_call 20; (with_reducible refine ((T12 _).out).mono ?_); rintro e w12 ⟨rfl, hb12⟩; clear tok12 _t; have hz12 := hb12.size; (try simp only [World.size_alloc, World.size_setCell, World.size_drew, World.size_drewN'] at hz12))))
          go_roundw
          case rel => first | exact ⟨2, by omega, by first | rfl | go_num, by repeat' first | (with_reducible first | apply zRf | assumption | apply zDn | apply zDr | apply zAl | apply zSt | refine zVi (by assumption) ?_ ?_) | go_size⟩ | ((repeat (with_reducible apply Exists.intro)); exact ⟨⟨2, by omega, by first | rfl | go_num, by repeat' first | (with_reducible first | apply zRf | assumption | apply zDn | apply zDr | apply zAl | apply zSt | refine zVi (by assumption) ?_ ?_) | go_size⟩, rfl⟩)
          case measure => simp [intOf]
      · by_cases hm : (13 : Int) ∈ Bd
        · have T11 := fun (W : World) (hW : Below w5.heap.size w5 W) => Lib.hid (qHas_yes (hR12.below hW) hm)
          have T12 := T11
          clear hb hm
          go_wp2_with (first | (first | (have _t := tok11; go_at_call 19; (with_reducible refine ((T11 _ (by repeat' first | (with_reducible first | apply zRf | assumption | apply zDn | apply zDr | apply zAl | apply zSt | refine zVi (by assumption) ?_ ?_) | go_size)).out).mono ?_); rintro e w11 ⟨rfl, hb11⟩; clear tok11 _t; have hz11 := hb11.size; (try simp only [World.size_alloc, World.size_setCell, World.size_drew, World.size_drewN'] at hz11); (try (have kq := cellAt hb11 (gQ) (by go_size); have k11_gQ_0 := kq 0; have k11_gQ_1 := kq 1; have k11_gQ_2 := kq 2; clear kq; have f11_gQ := frozAt hb11 (gQ) (by go_size); simp [go_sem, *] at k11_gQ_0 k11_gQ_1 k11_gQ_2 f11_gQ)); (try have l11_gQ : gQ < w11.heap.size := by omega); (try (have kq := cellAt hb11 (w2.heap.size) (by go_size); have k11_w2_0_0 := kq 0; have k11_w2_0_1 := kq 1; have k11_w2_0_2 := kq 2; clear kq; have f11_w2_0 := frozAt hb11 (w2.heap.size) (by go_size); simp [go_sem, *] at k11_w2_0_0 k11_w2_0_1 k11_w2_0_2 f11_w2_0)); (try have l11_w2_0 : w2.heap.size < w11.heap.size := by omega); (try clear k7_gQ_0 k7_gQ_1 k7_gQ_2 f7_gQ); (try clear l7_gQ); (try clear k7_w2_0_0 k7_w2_0_1 k7_w2_0_2 f7_w2_0); (try clear l7_w2_0); (try clear k8_gQ_0 k8_gQ_1 k8_gQ_2 f8_gQ); (try clear l8_gQ); (try clear k8_w2_0_0 k8_w2_0_1 k8_w2_0_2 f8_w2_0); (try clear l8_w2_0); (try clear k9_gQ_0 k9_gQ_1 k9_gQ_2 f9_gQ); (try clear l9_gQ); (try clear k9_w2_0_0 k9_w2_0_1 k9_w2_0_2 f9_w2_0); (try clear l9_w2_0); (try clear k10_gQ_0 k10_gQ_1 k10_gQ_2 f10_gQ); (try clear l10_gQ); (try clear k10_w2_0_0 k10_w2_0_1 k10_w2_0_2 f10_w2_0); (try clear l10_w2_0))) | (first | (have _t := tok12; go_at_call 20; (with_reducible refine ((T12 _).out).mono ?_); rintro e w12 ⟨rfl, hb12⟩; clear tok12 _t; have hz12 := hb12.size; (try simp only [World.size_alloc, World.size_setCell, World.size_drew, World.size_drewN'] at hz12))))
          go_roundw
          case rel => first | exact ⟨3, by omega, by first | rfl | go_num, by repeat' first | (with_reducible first | apply zRf | assumption | apply zDn | apply zDr | apply zAl | apply zSt | refine zVi (by assumption) ?_ ?_) | go_size⟩ | ((repeat (with_reducible apply Exists.intro)); exact ⟨⟨3, by omega, by first | rfl | go_num, by repeat' first | (with_reducible first | apply zRf | assumption | apply zDn | apply zDr | apply zAl | apply zSt | refine zVi (by assumption) ?_ ?_) | go_size⟩, rfl⟩)
          case measure => simp [intOf]
        · have R := hb.out 13 (by omega) hm
          have T11 := fun (W : World) (hW : Below w5.heap.size w5 W) => Lib.hid (qHas_no (hR12.below hW) hm)
          have T12 := fun W : World => Lib.hid (R W)
          clear hb hm R
          go_wp2_with (first | (first | (have _t := tok11; go_at_call 19; (with_reducible refine ((T11 _ (by repeat' first | (with_reducible first | apply zRf | assumption | apply zDn | apply zDr | apply zAl | apply zSt | refine zVi (by assumption) ?_ ?_) | go_size)).out).mono ?_); rintro e w11 ⟨rfl, hb11⟩; clear tok11 _t; have hz11 := hb11.size; (try simp only [World.size_alloc, World.size_setCell, World.size_drew, World.size_drewN'] at hz11); (try (have kq := cellAt hb11 (gQ) (by go_size); have k11_gQ_0 := kq 0; have k11_gQ_1 := kq 1; have k11_gQ_2 := kq 2; clear kq; have f11_gQ := frozAt hb11 (gQ) (by go_size); simp [go_sem, *] at k11_gQ_0 k11_gQ_1 k11_gQ_2 f11_gQ)); (try have l11_gQ : gQ < w11.heap.size := by omega); (try (have kq := cellAt hb11 (w2.heap.size) (by go_size); have k11_w2_0_0 := kq 0; have k11_w2_0_1 := kq 1; have k11_w2_0_2 := kq 2; clear kq; have f11_w2_0 := frozAt hb11 (w2.heap.size) (by go_size); simp [go_sem, *] at k11_w2_0_0 k11_w2_0_1 k11_w2_0_2 f11_w2_0)); (try have l11_w2_0 : w2.heap.size < w11.heap.size := by omega); (try clear k7_gQ_0 k7_gQ_1 k7_gQ_2 f7_gQ); (try clear l7_gQ); (try clear k7_w2_0_0 k7_w2_0_1 k7_w2_0_2 f7_w2_0); (try clear l7_w2_0); (try clear k8_gQ_0 k8_gQ_1 k8_gQ_2 f8_gQ); (try clear l8_gQ); (try clear k8_w2_0_0 k8_w2_0_1 k8_w2_0_2 f8_w2_0); (try clear l8_w2_0); (try clear k9_gQ_0 k9_gQ_1 k9_gQ_2 f9_gQ); (try clear l9_gQ); (try clear k9_w2_0_0 k9_w2_0_1 k9_w2_0_2 f9_w2_0); (try clear l9_w2_0); (try clear k10_gQ_0 k10_gQ_1 k10_gQ_2 f10_gQ); (try clear l10_gQ); (try clear k10_w2_0_0 k10_w2_0_1 k10_w2_0_2 f10_w2_0); (try clear l10_w2_0))) | (first | (have _t := tok12; go_at_call 20; (with_reducible refine ((T12 _).out).mono ?_); rintro e w12 ⟨rfl, hb12⟩; clear tok12 _t; have hz12 := hb12.size; (try simp only [World.size_alloc, World.size_setCell, World.size_drew, World.size_drewN'] at hz12))))
          go_roundw
          case rel => first | exact ⟨3, by omega, by first | rfl | go_num, by repeat' first | (with_reducible first | apply zRf | assumption | apply zDn | apply zDr | apply zAl | apply zSt | refine zVi (by assumption) ?_ ?_) | go_size⟩ | ((repeat (with_reducible apply Exists.intro)); exact ⟨⟨3, by omega, by first | rfl | go_num, by repeat' first | (with_reducible first | apply zRf | assumption | apply zDn | apply zDr | apply zAl | apply zSt | refine zVi (by assumption) ?_ ?_) | go_size⟩, rfl⟩)
          case measure => simp [intOf]
      · clear hb
        iterate 90 (first | ((with_reducible show Code.wp _ (.seq (.seq (.region 34 _ _) _) _) _ _ _); exact FnPl_34 hB9 H_Q_9.out (hR8.below hb9) (hR12.below hb9) hL Fl.out) | go_values | go_skip | go_guarded | go_step | go_upon | go_back | skip)
end
section
open Go.RowKit
set_option linter.unusedVariables false
set_option maxHeartbeats 0
set_option maxRecDepth 20000
set_option linter.unusedSimpArgs false

theorem FnPl_17 {D A C n p k : Int} {o7 sq one ok ev real : Bool} {w W : World} {gQ n8 c8 n12 c12 : Nat} {a8 a12 : Option Addr} {L Bd : List Int} {u0 u1 u2 u3 u4 u6 u9 u10 u13 u14 u15 u17 u18 u19 u21 u25 u28 u29 u30 u31 u32 u33 u34 u35 u36 u37 u38 u39 u40 u41 u42 u43 u44 u45 u46 u47 u48 u49 u50 u51 u52 u53 u54 u55 u56 u57 u58 u59 u60 u61 u62 u63 u64 u65 u66 u67 u68 u69 u70 u71 u72 u73 u74 u75 u76 u77 u78 u79 u80 u81 u82 u83 u84 u85 u86 u87 u88 u89 u90 u91 u92 u93 u94 u95 u96 u97 u98 u99 u100 u101 u102 u103 u104 u105 u106 u107 u108 u109 u110 u111 u112 u113 u114 u115 u116 u117 u118 u119 u120 u121 u122 u123 u124 u125 u126 u127 u128 u129 u130 u131 u132 u133 u134 u135 u136 u137 u138 u139 u140 u141 u142 u143 u144 u145 u146 u147 u148 u149 u150 u151 u152 u153 u154 u155 u156 u157 u158 u159 u160 u161 u162 u163 u164 u165 u166 u167 u168 u169 u170 u171 u172 u173 u174 u175 u176 u177 u178 u179 u180 u181 u182 u183 u184 u185 u186 u187 u188 u189 u190 u191 u192 u193 u194 u195 u196 u197 u198 u199 u200 u201 u202 u203 u204 u205 u206 u207 u208 u209 u210 u211 u212 u213 u214 u215 u216 u217 u218 u219 u220 u221 u222 u223 u224 u225 u226 u227 u228 u229 u230 u231 u232 u233 u234 u235 u236 u237 u238 u239 u240 u241 u242 u243 u244 u245 u246 u247 u248 u249 u250 u251 u252 u253 u254 u255 u256 u257 u258 u259 u260 u261 u262 u263 u264 : Value}
    (hB : Below w.heap.size w W) (HQ : W.heap[gQ]? = some (.cells #[.int .i64 D, .int .i64 A, .int .i64 C] 24 (0, 0))) (hx8 : Sx W a8 n8 c8 L) (hx12 : Sx W a12 n12 c12 Bd) (hL : L.length ≤ 996) (hkb : -1 ≤ k ∧ k ≤ 32)
    (Fs : (o7 = true → ∀ s : Int, s * s = n → sq = true))
    (Fk : (o7 = true → sq = true → 1 < k → RetC 14 #[.int .i64 n, .int .i64 p, .int .i64 (k - 1)] (.tuple #[.bool true, .bool true])))
    (Fb : (one = true → ∀ p : Int, p = 3 ∨ p = 7 ∨ p = 13 → p ∉ Bd → RetC 20 #[.agg #[.int .i64 D, .int .i64 A, .int .i64 C], .int .i64 p] (.tuple #[.bool true, .bool true])))
    (Fl : (ok = true → (∀ p ∈ L, p ∈ Bd ∧ RetC 20 #[.agg #[.int .i64 D, .int .i64 A, .int .i64 C], .int .i64 p] (.tuple #[.bool false, .bool true])) ∧ ev = (real && decide (L.length = 0))))
    : Code.wp Tryz.prog (dropTo 17 (bodyOf Tryz.f3)) (bodyPost Tryz.prog Tryz.f3 fun e w' => e = .returned (.bool true) ∧ Below w.heap.size w w') { tmps := #[u0, u1, u2, u3, u4, .pointer (some ⟨gQ, 0, none⟩), u6, .bool ok, .slice a8 n8 c8, u9, u10, .bool one, .slice a12 n12 c12, u13, u14, u15, .bool ev, u17, u18, u19, .bool real, u21, .int .i64 n, .int .i64 p, .int .i64 k, u25, .bool o7, .bool sq, u28, u29, u30, u31, u32, u33, u34, u35, u36, u37, u38, u39, u40, u41, u42, u43, u44, u45, u46, u47, u48, u49, u50, u51, u52, u53, u54, u55, u56, u57, u58, u59, u60, u61, u62, u63, u64, u65, u66, u67, u68, u69, u70, u71, u72, u73, u74, u75, u76, u77, u78, u79, u80, u81, u82, u83, u84, u85, u86, u87, u88, u89, u90, u91, u92, u93, u94, u95, u96, u97, u98, u99, u100, u101, u102, u103, u104, u105, u106, u107, u108, u109, u110, u111, u112, u113, u114, u115, u116, u117, u118, u119, u120, u121, u122, u123, u124, u125, u126, u127, u128, u129, u130, u131, u132, u133, u134, u135, u136, u137, u138, u139, u140, u141, u142, u143, u144, u145, u146, u147, u148, u149, u150, u151, u152, u153, u154, u155, u156, u157, u158, u159, u160, u161, u162, u163, u164, u165, u166, u167, u168, u169, u170, u171, u172, u173, u174, u175, u176, u177, u178, u179, u180, u181, u182, u183, u184, u185, u186, u187, u188, u189, u190, u191, u192, u193, u194, u195, u196, u197, u198, u199, u200, u201, u202, u203, u204, u205, u206, u207, u208, u209, u210, u211, u212, u213, u214, u215, u216, u217, u218, u219, u220, u221, u222, u223, u224, u225, u226, u227, u228, u229, u230, u231, u232, u233, u234, u235, u236, u237, u238, u239, u240, u241, u242, u243, u244, u245, u246, u247, u248, u249, u250, u251, u252, u253, u254, u255, u256, u257, u258, u259, u260, u261, u262, u263, u264], defers := [] } W := by
  replace Fs := Lib.hid Fs
  replace Fk := Lib.hid Fk
  replace Fb := Lib.hid Fb
  replace Fl := Lib.hid Fl
  have hn8 := hx8.len
  have tok3 : True := trivial
  have tok4 : True := trivial
  conv in dropTo _ _ => whnf
  dsimp only
  refine chk (fun W => Below w.heap.size w W ∧ W.heap[gQ]? = some (.cells #[.int .i64 D, .int .i64 A, .int .i64 C] 24 (0, 0)) ∧ Sx W a8 n8 c8 L ∧ Sx W a12 n12 c12 Bd) (by refine ⟨?_, ?_, ?_, ?_⟩ <;> (repeat' first | (with_reducible first | assumption | (apply Ne.symm; assumption) | apply Nat.le_refl | apply Nat.le_add_right | apply zL | apply zRf | apply Wx.box | apply Wx.box4 | apply zWa | apply Wx.drew | apply zWn | apply bx_drew | apply bx_drewN | apply bx_set3 | apply bx_set2 | apply bx_set4 | apply bx_set1) | ((with_reducible apply bx_new); (focus (go_size; done))) | (with_reducible first | apply zOl | apply zFa | apply zDn | apply zDr | apply zAl | apply zSt | refine zVi (by assumption) ?_ ?_) | go_size | omega)) ?_
  rintro w2 ⟨hB2, H_Q_2, hS8, hS12⟩
  obtain ⟨k_Q_2_0, k_Q_2_1, k_Q_2_2, f_Q_2, l_Q_2⟩ := bk3 H_Q_2
  replace H_Q_2 := Lib.hid H_Q_2
  clear hB HQ hx8 hx12
  cases o7
  · have _t := trivial
    iterate 90 (first | ((with_reducible show Code.wp _ (.seq (.seq (.region 25 _ _) _) _) _ _ _); exact FnPl_25 hB2 H_Q_2.out (hS8) (hS12) hL Fb.out Fl.out) | go_values | go_skip | go_guarded | go_step | go_upon | go_back | skip)
  · replace Fs := Lib.hid (Fs.out rfl)
    replace Fk := Lib.hid (Fk.out rfl)
    go_upto_region 19 with (first | (have _t := tok3; go_at_call 18; refine (sSquareRootOf_some _ _ _).mono ?_; rintro e w3 ⟨r1, r2, os, rfl, hso, hb3⟩; clear tok3 _t; have hz3 := hb3.size; (try simp only [World.size_alloc, World.size_setCell, World.size_drew, World.size_drewN'] at hz3)))
    have H_Q_3 := (hb3.block (gQ) (blk_lt' H_Q_2.out)).trans H_Q_2.out
    clear k_Q_2_0 k_Q_2_1 k_Q_2_2 f_Q_2 H_Q_2
    obtain ⟨k_Q_3_0, k_Q_3_1, k_Q_3_2, f_Q_3, l_Q_3⟩ := bk3 H_Q_3
    replace H_Q_3 := Lib.hid H_Q_3
    have hB3 : Below w.heap.size w w3 := below_via hb3 (by assumption) (by first | exact hB2.size | go_size)
    have sz1 := hB3.size
    have hT8 := hS8.below hb3
    have hT12 := hS12.below hb3
    clear hb3 hS8 hS12
    replace H_Q_3 := H_Q_3.out
    refine chk (fun W => Below w.heap.size w W ∧ W.heap[gQ]? = some (.cells #[.int .i64 D, .int .i64 A, .int .i64 C] 24 (0, 0)) ∧ Below w3.heap.size w3 W) (by refine ⟨?_, ?_, ?_⟩ <;> (repeat' first | (with_reducible first | assumption | (apply Ne.symm; assumption) | apply Nat.le_refl | apply Nat.le_add_right | apply zL | apply zRf | apply Wx.box | apply Wx.box4 | apply zWa | apply Wx.drew | apply zWn | apply bx_drew | apply bx_drewN | apply bx_set3 | apply bx_set2 | apply bx_set4 | apply bx_set1) | ((with_reducible apply bx_new); (focus (go_size; done))) | (with_reducible first | apply zOl | apply zFa | apply zDn | apply zDr | apply zAl | apply zSt | refine zVi (by assumption) ?_ ?_) | go_size | omega)) ?_
    clear k_Q_3_0 k_Q_3_1 k_Q_3_2 f_Q_3 H_Q_3
    clear hB3
    rintro w6 ⟨hB6, H_Q_6, HBn⟩
    obtain ⟨k_Q_6_0, k_Q_6_1, k_Q_6_2, f_Q_6, l_Q_6⟩ := bk3 H_Q_6
    replace H_Q_6 := Lib.hid H_Q_6
    have hR8 := hT8.below HBn
    have hR12 := hT12.below HBn
    clear HBn hT8 hT12
    have hoq : os = true → sq = true := fun h => Fs.out r1 (hso h).2.2
    clear Fs hso
    cases os
    · clear hoq
      cases sq
      · clear Fk
        by_cases h1 : 1 < k
        · have _t := trivial
          iterate 90 (first | ((with_reducible show Code.wp _ (.seq (.seq (.region 25 _ _) _) _) _ _ _); exact FnPl_25 hB6 H_Q_6.out (hR8) (hR12) hL Fb.out Fl.out) | go_values | go_skip | go_guarded | go_step | go_upon | go_back | skip)
        · have _t := trivial
          iterate 90 (first | ((with_reducible show Code.wp _ (.seq (.seq (.region 25 _ _) _) _) _ _ _); exact FnPl_25 hB6 H_Q_6.out (hR8) (hR12) hL Fb.out Fl.out) | go_values | go_skip | go_guarded | go_step | go_upon | go_back | skip)
      · by_cases h1 : 1 < k
        · have R := Fk.out rfl h1
          have T4 := fun W : World => Lib.hid (R W)
          clear Fk R
          go_upto_region 23 with (first | (have _t := tok4; go_at_call 14; (with_reducible refine ((T4 _).out).mono ?_); rintro e w4 ⟨rfl, hb4⟩; clear tok4 _t; have hz4 := hb4.size; (try simp only [World.size_alloc, World.size_setCell, World.size_drew, World.size_drewN'] at hz4)))
          have H_Q_4 := (hb4.block (gQ) (blk_lt' H_Q_6.out)).trans H_Q_6.out
          clear k_Q_6_0 k_Q_6_1 k_Q_6_2 f_Q_6 H_Q_6
          obtain ⟨k_Q_4_0, k_Q_4_1, k_Q_4_2, f_Q_4, l_Q_4⟩ := bk3 H_Q_4
          replace H_Q_4 := Lib.hid H_Q_4
          have hB4 : Below w.heap.size w w4 := below_via hb4 (by assumption) (by first | exact hB6.size | go_size)
          iterate 90 (first | ((with_reducible show Code.wp _ (.seq (.seq (.region 25 _ _) _) _) _ _ _); exact FnPl_25 hB4 H_Q_4.out (hR8.below hb4) (hR12.below hb4) hL Fb.out Fl.out) | go_values | go_skip | go_guarded | go_step | go_upon | go_back | skip)
        · clear Fk
          iterate 90 (first | ((with_reducible show Code.wp _ (.seq (.seq (.region 25 _ _) _) _) _ _ _); exact FnPl_25 hB6 H_Q_6.out (hR8) (hR12) hL Fb.out Fl.out) | go_values | go_skip | go_guarded | go_step | go_upon | go_back | skip)
    · obtain rfl := hoq rfl
      by_cases h1 : 1 < k
      · have R := Fk.out rfl h1
        have T4 := fun W : World => Lib.hid (R W)
        clear Fk R
        go_upto_region 23 with (first | (have _t := tok4; go_at_call 14; (with_reducible refine ((T4 _).out).mono ?_); rintro e w4 ⟨rfl, hb4⟩; clear tok4 _t; have hz4 := hb4.size; (try simp only [World.size_alloc, World.size_setCell, World.size_drew, World.size_drewN'] at hz4)))
        have H_Q_4 := (hb4.block (gQ) (blk_lt' H_Q_6.out)).trans H_Q_6.out
        clear k_Q_6_0 k_Q_6_1 k_Q_6_2 f_Q_6 H_Q_6
        obtain ⟨k_Q_4_0, k_Q_4_1, k_Q_4_2, f_Q_4, l_Q_4⟩ := bk3 H_Q_4
        replace H_Q_4 := Lib.hid H_Q_4
        have hB4 : Below w.heap.size w w4 := below_via hb4 (by assumption) (by first | exact hB6.size | go_size)
        iterate 90 (first | ((with_reducible show Code.wp _ (.seq (.seq (.region 25 _ _) _) _) _ _ _); exact FnPl_25 hB4 H_Q_4.out (hR8.below hb4) (hR12.below hb4) hL Fb.out Fl.out) | go_values | go_skip | go_guarded | go_step | go_upon | go_back | skip)
      · clear Fk
        iterate 90 (first | ((with_reducible show Code.wp _ (.seq (.seq (.region 25 _ _) _) _) _ _ _); exact FnPl_25 hB6 H_Q_6.out (hR8) (hR12) hL Fb.out Fl.out) | go_values | go_skip | go_guarded | go_step | go_upon | go_back | skip)
end
end Go.Proofs.YtegiddpakocodaaGreat
