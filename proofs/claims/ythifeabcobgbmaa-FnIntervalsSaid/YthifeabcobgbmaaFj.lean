/- FnIntervals: the walk of the law. -/
import Derived.Test.YthifeabcobgbmaaFm
namespace Go.Proofs.Ythifeabcobgbmaa
open Go.RowKit
set_option linter.unusedVariables false
set_option maxHeartbeats 0
set_option maxRecDepth 20000
set_option linter.unusedSimpArgs false

theorem FnIntervals_any {s1 s2 : Option Addr} {m1 c1 m2 c2 : Nat} (w : World) (h1 : ByW w s1 m1) (h2 : ByW w s2 m2) : Calls Try.prog 3 #[.slice s1 m1 c1, .slice s2 m2 c2] w fun e w' => e = .returned (.bool true) ∧ Below w.heap.size w w' := by
  by_cases hbig : (1048576 : Int) < wrap64 ((m1 : Int) + m2)
  · go_enter Try.func3, Try.ntmps3
    go_wp2_with fail
    go_ret
    refine ⟨rfl, ?_⟩
    repeat' first | (with_reducible first | apply zRf | assumption | apply zDn | apply zDr | apply zAl | apply zSt | refine zVi (by assumption) ?_ ?_) | go_size
  have tok1 : True := trivial
  have tok2 : True := trivial
  have tok3 : True := trivial
  have tok4 : True := trivial
  have tok5 : True := trivial
  have tok6 : True := trivial
  have tok7 : True := trivial
  have tok8 : True := trivial
  have tok9 : True := trivial
  have tok10 : True := trivial
  have tok11 : True := trivial
  have tok12 : True := trivial
  have tok13 : True := trivial
  have tok14 : True := trivial
  have tok15 : True := trivial
  have tok16 : True := trivial
  have tok17 : True := trivial
  have tok18 : True := trivial
  have tok19 : True := trivial
  have tok20 : True := trivial
  have tok21 : True := trivial
  have tok22 : True := trivial
  have tok23 : True := trivial
  have tok24 : True := trivial
  have tok25 : True := trivial
  have tok26 : True := trivial
  have tok27 : True := trivial
  have tok28 : True := trivial
  have tok29 : True := trivial
  have tok30 : True := trivial
  have tok31 : True := trivial
  have tok32 : True := trivial
  have tok33 : True := trivial
  have tok34 : True := trivial
  have tok35 : True := trivial
  have tok36 : True := trivial
  have tok37 : True := trivial
  have tok38 : True := trivial
  have tok39 : True := trivial
  have tok40 : True := trivial
  have tok41 : True := trivial
  have tok42 : True := trivial
  have tok43 : True := trivial
  have tok44 : True := trivial
  have tok45 : True := trivial
  have tok46 : True := trivial
  have tok47 : True := trivial
  have tok48 : True := trivial
  have tok49 : True := trivial
  have tok50 : True := trivial
  have tok51 : True := trivial
  have tok52 : True := trivial
  have tok53 : True := trivial
  have tok54 : True := trivial
  have tok55 : True := trivial
  have tok56 : True := trivial
  have tok57 : True := trivial
  have tok58 : True := trivial
  have tok59 : True := trivial
  have tok60 : True := trivial
  have tok61 : True := trivial
  go_enter Try.func3, Try.ntmps3
  go_upto_region 4 with (first | (have _t := tok1; go_at_call 4; refine (DrawAddIntervals_any (h1.below (by repeat' first | (with_reducible first | apply zRf | assumption | apply zDn | apply zDr | apply zAl | apply zSt | refine zVi (by assumption) ?_ ?_) | go_size))).mono ?_; rintro e w1 ⟨n1, d1, n2, d2, n3, d3, n4, d4, rfl, hb1⟩; clear tok1 _t; have hz1 := hb1.size; (try simp only [World.size_alloc, World.size_setCell, World.size_drew, World.size_drewN'] at hz1)))
  obtain ⟨A1, A2, A3, A4, oa, S1, S2, S3, S4, os, M1, M2, M3, M4, om, D1, D2, D3, D4, od, H1, H2, H3, H4, oh, C1, C2, C3, C4, oc, X1, X2, X3, X4, ox, R3, R5, R7, R9, R11, R13, R15, R17, R19, R21, R23, R25, RX, RY, Fs, Fm, Fd, Fh, Fc, Fb, Fi⟩ := iv_setup n1 d1 n2 d2 n3 d3 n4 d4
  have T3 := fun W : World => Lib.hid (R3 W)
  have T5 := fun W : World => Lib.hid (R5 W)
  have T7 := fun W : World => Lib.hid (R7 W)
  have T9 := fun W : World => Lib.hid (R9 W)
  have T11 := fun W : World => Lib.hid (R11 W)
  have T13 := fun W : World => Lib.hid (R13 W)
  have T15 := fun W : World => Lib.hid (R15 W)
  have T17 := fun W : World => Lib.hid (R17 W)
  have T19 := fun W : World => Lib.hid (R19 W)
  have T21 := fun W : World => Lib.hid (R21 W)
  have T23 := fun W : World => Lib.hid (R23 W)
  have T25 := fun W : World => Lib.hid (R25 W)
  have TX := fun W : World => Lib.hid (RX W)
  have TY := fun W : World => Lib.hid (RY W)
  have TI := fun W : World => Lib.hid (IsInterval_any A1 A2 A3 A4 W)
  clear R3 R5 R7 R9 R11 R13 R15 R17 R19 R21 R23 R25
  replace RX := Lib.hid RX
  replace RY := Lib.hid RY
  replace Fs := Lib.hid Fs
  replace Fm := Lib.hid Fm
  replace Fd := Lib.hid Fd
  replace Fh := Lib.hid Fh
  replace Fc := Lib.hid Fc
  replace Fb := Lib.hid Fb
  replace Fi := Lib.hid Fi
  refine chk (fun W => Below w.heap.size w W ∧ W.heap[w1.heap.size]? = some (.cells #[.int .i64 n1, .int .i64 d1, .int .i64 n2, .int .i64 d2] 26 (0, 0)) ∧ W.heap[w1.heap.size + 1]? = some (.cells #[.int .i64 n3, .int .i64 d3, .int .i64 n4, .int .i64 d4] 26 (0, 0))) (by refine ⟨?_, ?_, ?_⟩ <;> (repeat' first | (with_reducible first | assumption | (apply Ne.symm; assumption) | apply Nat.le_refl | apply Nat.le_add_right | apply zL | apply zRf | apply Wx.box | apply Wx.box4 | apply zWa | apply Wx.drew | apply zWn | apply bx_drew | apply bx_drewN | apply bx_set3 | apply bx_set2 | apply bx_set4 | apply bx_set1) | ((with_reducible apply bx_new); (focus (go_size; done))) | (with_reducible first | apply zOl | apply zFa | apply zDn | apply zDr | apply zAl | apply zSt | refine zVi (by assumption) ?_ ?_) | go_size | omega)) ?_
  rintro w2 ⟨hB2, H_I_2, H_K_2⟩
  obtain ⟨k_I_2_0, k_I_2_1, k_I_2_2, k_I_2_3, f_I_2, l_I_2⟩ := bk4 H_I_2
  replace H_I_2 := Lib.hid H_I_2
  obtain ⟨k_K_2_0, k_K_2_1, k_K_2_2, k_K_2_3, f_K_2, l_K_2⟩ := bk4 H_K_2
  replace H_K_2 := Lib.hid H_K_2
  clear hb1 h1 h2 hbig
  go_upto_region 5 with (first | (have _t := tok3; go_at_call 5; (with_reducible refine ((T3 _).out).mono ?_); rintro e w3 ⟨rfl, hb3⟩; clear tok3 _t; have hz3 := hb3.size; (try simp only [World.size_alloc, World.size_setCell, World.size_drew, World.size_drewN'] at hz3)))
  have H_I_3 := (hb3.block (w1.heap.size) (blk_lt' H_I_2.out)).trans H_I_2.out
  clear k_I_2_0 k_I_2_1 k_I_2_2 k_I_2_3 f_I_2 H_I_2
  obtain ⟨k_I_3_0, k_I_3_1, k_I_3_2, k_I_3_3, f_I_3, l_I_3⟩ := bk4 H_I_3
  replace H_I_3 := Lib.hid H_I_3
  have H_K_3 := (hb3.block (w1.heap.size + 1) (blk_lt' H_K_2.out)).trans H_K_2.out
  clear k_K_2_0 k_K_2_1 k_K_2_2 k_K_2_3 f_K_2 H_K_2
  obtain ⟨k_K_3_0, k_K_3_1, k_K_3_2, k_K_3_3, f_K_3, l_K_3⟩ := bk4 H_K_3
  replace H_K_3 := Lib.hid H_K_3
  have hB3 : Below w.heap.size w w3 := below_via hb3 (by assumption) (by first | exact hB2.size | go_size)
  clear hb3 T3
  replace H_I_3 := H_I_3.out
  replace H_K_3 := H_K_3.out
  refine chk (fun W => Below w.heap.size w W ∧ W.heap[w1.heap.size]? = some (.cells #[.int .i64 n1, .int .i64 d1, .int .i64 n2, .int .i64 d2] 26 (0, 0)) ∧ W.heap[w1.heap.size + 1]? = some (.cells #[.int .i64 n3, .int .i64 d3, .int .i64 n4, .int .i64 d4] 26 (0, 0)) ∧ W.heap[w3.heap.size]? = some (.cells #[.int .i64 A1, .int .i64 A2, .int .i64 A3, .int .i64 A4] 26 (0, 0))) (by refine ⟨?_, ?_, ?_, ?_⟩ <;> (repeat' first | (with_reducible first | assumption | (apply Ne.symm; assumption) | apply Nat.le_refl | apply Nat.le_add_right | apply zL | apply zRf | apply Wx.box | apply Wx.box4 | apply zWa | apply Wx.drew | apply zWn | apply bx_drew | apply bx_drewN | apply bx_set3 | apply bx_set2 | apply bx_set4 | apply bx_set1) | ((with_reducible apply bx_new); (focus (go_size; done))) | (with_reducible first | apply zOl | apply zFa | apply zDn | apply zDr | apply zAl | apply zSt | refine zVi (by assumption) ?_ ?_) | go_size | omega)) ?_
  clear k_I_3_0 k_I_3_1 k_I_3_2 k_I_3_3 f_I_3 H_I_3
  clear k_K_3_0 k_K_3_1 k_K_3_2 k_K_3_3 f_K_3 H_K_3
  clear hB3
  rintro w4 ⟨hB4, H_I_4, H_K_4, H_Ai_4⟩
  obtain ⟨k_I_4_0, k_I_4_1, k_I_4_2, k_I_4_3, f_I_4, l_I_4⟩ := bk4 H_I_4
  replace H_I_4 := Lib.hid H_I_4
  obtain ⟨k_K_4_0, k_K_4_1, k_K_4_2, k_K_4_3, f_K_4, l_K_4⟩ := bk4 H_K_4
  replace H_K_4 := Lib.hid H_K_4
  obtain ⟨k_Ai_4_0, k_Ai_4_1, k_Ai_4_2, k_Ai_4_3, f_Ai_4, l_Ai_4⟩ := bk4 H_Ai_4
  replace H_Ai_4 := Lib.hid H_Ai_4
  go_upto_region 6 with (first | (have _t := tok5; go_at_call 6; (with_reducible refine ((T5 _).out).mono ?_); rintro e w5 ⟨rfl, hb5⟩; clear tok5 _t; have hz5 := hb5.size; (try simp only [World.size_alloc, World.size_setCell, World.size_drew, World.size_drewN'] at hz5)))
  have H_I_5 := (hb5.block (w1.heap.size) (blk_lt' H_I_4.out)).trans H_I_4.out
  clear k_I_4_0 k_I_4_1 k_I_4_2 k_I_4_3 f_I_4 H_I_4
  obtain ⟨k_I_5_0, k_I_5_1, k_I_5_2, k_I_5_3, f_I_5, l_I_5⟩ := bk4 H_I_5
  replace H_I_5 := Lib.hid H_I_5
  have H_K_5 := (hb5.block (w1.heap.size + 1) (blk_lt' H_K_4.out)).trans H_K_4.out
  clear k_K_4_0 k_K_4_1 k_K_4_2 k_K_4_3 f_K_4 H_K_4
  obtain ⟨k_K_5_0, k_K_5_1, k_K_5_2, k_K_5_3, f_K_5, l_K_5⟩ := bk4 H_K_5
  replace H_K_5 := Lib.hid H_K_5
  have H_Ai_5 := (hb5.block (w3.heap.size) (blk_lt' H_Ai_4.out)).trans H_Ai_4.out
  clear k_Ai_4_0 k_Ai_4_1 k_Ai_4_2 k_Ai_4_3 f_Ai_4 H_Ai_4
  obtain ⟨k_Ai_5_0, k_Ai_5_1, k_Ai_5_2, k_Ai_5_3, f_Ai_5, l_Ai_5⟩ := bk4 H_Ai_5
  replace H_Ai_5 := Lib.hid H_Ai_5
  have hB5 : Below w.heap.size w w5 := below_via hb5 (by assumption) (by first | exact hB4.size | go_size)
  clear hb5 T5
  replace H_I_5 := H_I_5.out
  replace H_K_5 := H_K_5.out
  replace H_Ai_5 := H_Ai_5.out
  refine chk (fun W => Below w.heap.size w W ∧ W.heap[w1.heap.size]? = some (.cells #[.int .i64 n1, .int .i64 d1, .int .i64 n2, .int .i64 d2] 26 (0, 0)) ∧ W.heap[w1.heap.size + 1]? = some (.cells #[.int .i64 n3, .int .i64 d3, .int .i64 n4, .int .i64 d4] 26 (0, 0)) ∧ W.heap[w3.heap.size]? = some (.cells #[.int .i64 A1, .int .i64 A2, .int .i64 A3, .int .i64 A4] 26 (0, 0)) ∧ W.heap[w5.heap.size]? = some (.cells #[.int .i64 A1, .int .i64 A2, .int .i64 A3, .int .i64 A4] 26 (0, 0))) (by refine ⟨?_, ?_, ?_, ?_, ?_⟩ <;> (repeat' first | (with_reducible first | assumption | (apply Ne.symm; assumption) | apply Nat.le_refl | apply Nat.le_add_right | apply zL | apply zRf | apply Wx.box | apply Wx.box4 | apply zWa | apply Wx.drew | apply zWn | apply bx_drew | apply bx_drewN | apply bx_set3 | apply bx_set2 | apply bx_set4 | apply bx_set1) | ((with_reducible apply bx_new); (focus (go_size; done))) | (with_reducible first | apply zOl | apply zFa | apply zDn | apply zDr | apply zAl | apply zSt | refine zVi (by assumption) ?_ ?_) | go_size | omega)) ?_
  clear k_I_5_0 k_I_5_1 k_I_5_2 k_I_5_3 f_I_5 H_I_5
  clear k_K_5_0 k_K_5_1 k_K_5_2 k_K_5_3 f_K_5 H_K_5
  clear k_Ai_5_0 k_Ai_5_1 k_Ai_5_2 k_Ai_5_3 f_Ai_5 H_Ai_5
  clear hB5
  rintro w6 ⟨hB6, H_I_6, H_K_6, H_Ai_6, H_As_6⟩
  obtain ⟨k_I_6_0, k_I_6_1, k_I_6_2, k_I_6_3, f_I_6, l_I_6⟩ := bk4 H_I_6
  replace H_I_6 := Lib.hid H_I_6
  obtain ⟨k_K_6_0, k_K_6_1, k_K_6_2, k_K_6_3, f_K_6, l_K_6⟩ := bk4 H_K_6
  replace H_K_6 := Lib.hid H_K_6
  obtain ⟨k_Ai_6_0, k_Ai_6_1, k_Ai_6_2, k_Ai_6_3, f_Ai_6, l_Ai_6⟩ := bk4 H_Ai_6
  replace H_Ai_6 := Lib.hid H_Ai_6
  obtain ⟨k_As_6_0, k_As_6_1, k_As_6_2, k_As_6_3, f_As_6, l_As_6⟩ := bk4 H_As_6
  replace H_As_6 := Lib.hid H_As_6
  go_upto_region 7 with (first | (have _t := tok7; go_at_call 7; (with_reducible refine ((T7 _).out).mono ?_); rintro e w7 ⟨rfl, hb7⟩; clear tok7 _t; have hz7 := hb7.size; (try simp only [World.size_alloc, World.size_setCell, World.size_drew, World.size_drewN'] at hz7)))
  have H_I_7 := (hb7.block (w1.heap.size) (blk_lt' H_I_6.out)).trans H_I_6.out
  clear k_I_6_0 k_I_6_1 k_I_6_2 k_I_6_3 f_I_6 H_I_6
  obtain ⟨k_I_7_0, k_I_7_1, k_I_7_2, k_I_7_3, f_I_7, l_I_7⟩ := bk4 H_I_7
  replace H_I_7 := Lib.hid H_I_7
  have H_K_7 := (hb7.block (w1.heap.size + 1) (blk_lt' H_K_6.out)).trans H_K_6.out
  clear k_K_6_0 k_K_6_1 k_K_6_2 k_K_6_3 f_K_6 H_K_6
  obtain ⟨k_K_7_0, k_K_7_1, k_K_7_2, k_K_7_3, f_K_7, l_K_7⟩ := bk4 H_K_7
  replace H_K_7 := Lib.hid H_K_7
  have H_Ai_7 := (hb7.block (w3.heap.size) (blk_lt' H_Ai_6.out)).trans H_Ai_6.out
  clear k_Ai_6_0 k_Ai_6_1 k_Ai_6_2 k_Ai_6_3 f_Ai_6 H_Ai_6
  obtain ⟨k_Ai_7_0, k_Ai_7_1, k_Ai_7_2, k_Ai_7_3, f_Ai_7, l_Ai_7⟩ := bk4 H_Ai_7
  replace H_Ai_7 := Lib.hid H_Ai_7
  have H_As_7 := (hb7.block (w5.heap.size) (blk_lt' H_As_6.out)).trans H_As_6.out
  clear k_As_6_0 k_As_6_1 k_As_6_2 k_As_6_3 f_As_6 H_As_6
  obtain ⟨k_As_7_0, k_As_7_1, k_As_7_2, k_As_7_3, f_As_7, l_As_7⟩ := bk4 H_As_7
  replace H_As_7 := Lib.hid H_As_7
  have hB7 : Below w.heap.size w w7 := below_via hb7 (by assumption) (by first | exact hB6.size | go_size)
  clear hb7 T7
  replace H_I_7 := H_I_7.out
  replace H_K_7 := H_K_7.out
  replace H_Ai_7 := H_Ai_7.out
  replace H_As_7 := H_As_7.out
  refine chk (fun W => Below w.heap.size w W ∧ W.heap[w1.heap.size]? = some (.cells #[.int .i64 n1, .int .i64 d1, .int .i64 n2, .int .i64 d2] 26 (0, 0)) ∧ W.heap[w1.heap.size + 1]? = some (.cells #[.int .i64 n3, .int .i64 d3, .int .i64 n4, .int .i64 d4] 26 (0, 0)) ∧ W.heap[w3.heap.size]? = some (.cells #[.int .i64 A1, .int .i64 A2, .int .i64 A3, .int .i64 A4] 26 (0, 0)) ∧ W.heap[w5.heap.size]? = some (.cells #[.int .i64 A1, .int .i64 A2, .int .i64 A3, .int .i64 A4] 26 (0, 0)) ∧ W.heap[w7.heap.size]? = some (.cells #[.int .i64 S1, .int .i64 S2, .int .i64 S3, .int .i64 S4] 26 (0, 0))) (by refine ⟨?_, ?_, ?_, ?_, ?_, ?_⟩ <;> (repeat' first | (with_reducible first | assumption | (apply Ne.symm; assumption) | apply Nat.le_refl | apply Nat.le_add_right | apply zL | apply zRf | apply Wx.box | apply Wx.box4 | apply zWa | apply Wx.drew | apply zWn | apply bx_drew | apply bx_drewN | apply bx_set3 | apply bx_set2 | apply bx_set4 | apply bx_set1) | ((with_reducible apply bx_new); (focus (go_size; done))) | (with_reducible first | apply zOl | apply zFa | apply zDn | apply zDr | apply zAl | apply zSt | refine zVi (by assumption) ?_ ?_) | go_size | omega)) ?_
  clear k_I_7_0 k_I_7_1 k_I_7_2 k_I_7_3 f_I_7 H_I_7
  clear k_K_7_0 k_K_7_1 k_K_7_2 k_K_7_3 f_K_7 H_K_7
  clear k_Ai_7_0 k_Ai_7_1 k_Ai_7_2 k_Ai_7_3 f_Ai_7 H_Ai_7
  clear k_As_7_0 k_As_7_1 k_As_7_2 k_As_7_3 f_As_7 H_As_7
  clear hB7
  rintro w8 ⟨hB8, H_I_8, H_K_8, H_Ai_8, H_As_8, H_Si_8⟩
  obtain ⟨k_I_8_0, k_I_8_1, k_I_8_2, k_I_8_3, f_I_8, l_I_8⟩ := bk4 H_I_8
  replace H_I_8 := Lib.hid H_I_8
  obtain ⟨k_K_8_0, k_K_8_1, k_K_8_2, k_K_8_3, f_K_8, l_K_8⟩ := bk4 H_K_8
  replace H_K_8 := Lib.hid H_K_8
  obtain ⟨k_Ai_8_0, k_Ai_8_1, k_Ai_8_2, k_Ai_8_3, f_Ai_8, l_Ai_8⟩ := bk4 H_Ai_8
  replace H_Ai_8 := Lib.hid H_Ai_8
  obtain ⟨k_As_8_0, k_As_8_1, k_As_8_2, k_As_8_3, f_As_8, l_As_8⟩ := bk4 H_As_8
  replace H_As_8 := Lib.hid H_As_8
  obtain ⟨k_Si_8_0, k_Si_8_1, k_Si_8_2, k_Si_8_3, f_Si_8, l_Si_8⟩ := bk4 H_Si_8
  replace H_Si_8 := Lib.hid H_Si_8
  go_upto_region 8 with (first | (have _t := tok9; go_at_call 8; (with_reducible refine ((T9 _).out).mono ?_); rintro e w9 ⟨rfl, hb9⟩; clear tok9 _t; have hz9 := hb9.size; (try simp only [World.size_alloc, World.size_setCell, World.size_drew, World.size_drewN'] at hz9)))
  have H_I_9 := (hb9.block (w1.heap.size) (blk_lt' H_I_8.out)).trans H_I_8.out
  clear k_I_8_0 k_I_8_1 k_I_8_2 k_I_8_3 f_I_8 H_I_8
  obtain ⟨k_I_9_0, k_I_9_1, k_I_9_2, k_I_9_3, f_I_9, l_I_9⟩ := bk4 H_I_9
  replace H_I_9 := Lib.hid H_I_9
  have H_K_9 := (hb9.block (w1.heap.size + 1) (blk_lt' H_K_8.out)).trans H_K_8.out
  clear k_K_8_0 k_K_8_1 k_K_8_2 k_K_8_3 f_K_8 H_K_8
  obtain ⟨k_K_9_0, k_K_9_1, k_K_9_2, k_K_9_3, f_K_9, l_K_9⟩ := bk4 H_K_9
  replace H_K_9 := Lib.hid H_K_9
  have H_Ai_9 := (hb9.block (w3.heap.size) (blk_lt' H_Ai_8.out)).trans H_Ai_8.out
  clear k_Ai_8_0 k_Ai_8_1 k_Ai_8_2 k_Ai_8_3 f_Ai_8 H_Ai_8
  obtain ⟨k_Ai_9_0, k_Ai_9_1, k_Ai_9_2, k_Ai_9_3, f_Ai_9, l_Ai_9⟩ := bk4 H_Ai_9
  replace H_Ai_9 := Lib.hid H_Ai_9
  have H_As_9 := (hb9.block (w5.heap.size) (blk_lt' H_As_8.out)).trans H_As_8.out
  clear k_As_8_0 k_As_8_1 k_As_8_2 k_As_8_3 f_As_8 H_As_8
  obtain ⟨k_As_9_0, k_As_9_1, k_As_9_2, k_As_9_3, f_As_9, l_As_9⟩ := bk4 H_As_9
  replace H_As_9 := Lib.hid H_As_9
  have H_Si_9 := (hb9.block (w7.heap.size) (blk_lt' H_Si_8.out)).trans H_Si_8.out
  clear k_Si_8_0 k_Si_8_1 k_Si_8_2 k_Si_8_3 f_Si_8 H_Si_8
  obtain ⟨k_Si_9_0, k_Si_9_1, k_Si_9_2, k_Si_9_3, f_Si_9, l_Si_9⟩ := bk4 H_Si_9
  replace H_Si_9 := Lib.hid H_Si_9
  have hB9 : Below w.heap.size w w9 := below_via hb9 (by assumption) (by first | exact hB8.size | go_size)
  clear hb9 T9
  replace H_I_9 := H_I_9.out
  replace H_K_9 := H_K_9.out
  replace H_Ai_9 := H_Ai_9.out
  replace H_As_9 := H_As_9.out
  replace H_Si_9 := H_Si_9.out
  refine chk (fun W => Below w.heap.size w W ∧ W.heap[w1.heap.size]? = some (.cells #[.int .i64 n1, .int .i64 d1, .int .i64 n2, .int .i64 d2] 26 (0, 0)) ∧ W.heap[w1.heap.size + 1]? = some (.cells #[.int .i64 n3, .int .i64 d3, .int .i64 n4, .int .i64 d4] 26 (0, 0)) ∧ W.heap[w3.heap.size]? = some (.cells #[.int .i64 A1, .int .i64 A2, .int .i64 A3, .int .i64 A4] 26 (0, 0)) ∧ W.heap[w5.heap.size]? = some (.cells #[.int .i64 A1, .int .i64 A2, .int .i64 A3, .int .i64 A4] 26 (0, 0)) ∧ W.heap[w7.heap.size]? = some (.cells #[.int .i64 S1, .int .i64 S2, .int .i64 S3, .int .i64 S4] 26 (0, 0)) ∧ W.heap[w9.heap.size]? = some (.cells #[.int .i64 S1, .int .i64 S2, .int .i64 S3, .int .i64 S4] 26 (0, 0))) (by refine ⟨?_, ?_, ?_, ?_, ?_, ?_, ?_⟩ <;> (repeat' first | (with_reducible first | assumption | (apply Ne.symm; assumption) | apply Nat.le_refl | apply Nat.le_add_right | apply zL | apply zRf | apply Wx.box | apply Wx.box4 | apply zWa | apply Wx.drew | apply zWn | apply bx_drew | apply bx_drewN | apply bx_set3 | apply bx_set2 | apply bx_set4 | apply bx_set1) | ((with_reducible apply bx_new); (focus (go_size; done))) | (with_reducible first | apply zOl | apply zFa | apply zDn | apply zDr | apply zAl | apply zSt | refine zVi (by assumption) ?_ ?_) | go_size | omega)) ?_
  clear k_I_9_0 k_I_9_1 k_I_9_2 k_I_9_3 f_I_9 H_I_9
  clear k_K_9_0 k_K_9_1 k_K_9_2 k_K_9_3 f_K_9 H_K_9
  clear k_Ai_9_0 k_Ai_9_1 k_Ai_9_2 k_Ai_9_3 f_Ai_9 H_Ai_9
  clear k_As_9_0 k_As_9_1 k_As_9_2 k_As_9_3 f_As_9 H_As_9
  clear k_Si_9_0 k_Si_9_1 k_Si_9_2 k_Si_9_3 f_Si_9 H_Si_9
  clear hB9
  rintro w10 ⟨hB10, H_I_10, H_K_10, H_Ai_10, H_As_10, H_Si_10, H_Ss_10⟩
  obtain ⟨k_I_10_0, k_I_10_1, k_I_10_2, k_I_10_3, f_I_10, l_I_10⟩ := bk4 H_I_10
  replace H_I_10 := Lib.hid H_I_10
  obtain ⟨k_K_10_0, k_K_10_1, k_K_10_2, k_K_10_3, f_K_10, l_K_10⟩ := bk4 H_K_10
  replace H_K_10 := Lib.hid H_K_10
  obtain ⟨k_Ai_10_0, k_Ai_10_1, k_Ai_10_2, k_Ai_10_3, f_Ai_10, l_Ai_10⟩ := bk4 H_Ai_10
  replace H_Ai_10 := Lib.hid H_Ai_10
  obtain ⟨k_As_10_0, k_As_10_1, k_As_10_2, k_As_10_3, f_As_10, l_As_10⟩ := bk4 H_As_10
  replace H_As_10 := Lib.hid H_As_10
  obtain ⟨k_Si_10_0, k_Si_10_1, k_Si_10_2, k_Si_10_3, f_Si_10, l_Si_10⟩ := bk4 H_Si_10
  replace H_Si_10 := Lib.hid H_Si_10
  obtain ⟨k_Ss_10_0, k_Ss_10_1, k_Ss_10_2, k_Ss_10_3, f_Ss_10, l_Ss_10⟩ := bk4 H_Ss_10
  replace H_Ss_10 := Lib.hid H_Ss_10
  go_upto_region 9 with (first | (have _t := tok11; go_at_call 9; (with_reducible refine ((T11 _).out).mono ?_); rintro e w11 ⟨rfl, hb11⟩; clear tok11 _t; have hz11 := hb11.size; (try simp only [World.size_alloc, World.size_setCell, World.size_drew, World.size_drewN'] at hz11)))
  have H_I_11 := (hb11.block (w1.heap.size) (blk_lt' H_I_10.out)).trans H_I_10.out
  clear k_I_10_0 k_I_10_1 k_I_10_2 k_I_10_3 f_I_10 H_I_10
  obtain ⟨k_I_11_0, k_I_11_1, k_I_11_2, k_I_11_3, f_I_11, l_I_11⟩ := bk4 H_I_11
  replace H_I_11 := Lib.hid H_I_11
  have H_K_11 := (hb11.block (w1.heap.size + 1) (blk_lt' H_K_10.out)).trans H_K_10.out
  clear k_K_10_0 k_K_10_1 k_K_10_2 k_K_10_3 f_K_10 H_K_10
  obtain ⟨k_K_11_0, k_K_11_1, k_K_11_2, k_K_11_3, f_K_11, l_K_11⟩ := bk4 H_K_11
  replace H_K_11 := Lib.hid H_K_11
  have H_Ai_11 := (hb11.block (w3.heap.size) (blk_lt' H_Ai_10.out)).trans H_Ai_10.out
  clear k_Ai_10_0 k_Ai_10_1 k_Ai_10_2 k_Ai_10_3 f_Ai_10 H_Ai_10
  obtain ⟨k_Ai_11_0, k_Ai_11_1, k_Ai_11_2, k_Ai_11_3, f_Ai_11, l_Ai_11⟩ := bk4 H_Ai_11
  replace H_Ai_11 := Lib.hid H_Ai_11
  have H_As_11 := (hb11.block (w5.heap.size) (blk_lt' H_As_10.out)).trans H_As_10.out
  clear k_As_10_0 k_As_10_1 k_As_10_2 k_As_10_3 f_As_10 H_As_10
  obtain ⟨k_As_11_0, k_As_11_1, k_As_11_2, k_As_11_3, f_As_11, l_As_11⟩ := bk4 H_As_11
  replace H_As_11 := Lib.hid H_As_11
  have H_Si_11 := (hb11.block (w7.heap.size) (blk_lt' H_Si_10.out)).trans H_Si_10.out
  clear k_Si_10_0 k_Si_10_1 k_Si_10_2 k_Si_10_3 f_Si_10 H_Si_10
  obtain ⟨k_Si_11_0, k_Si_11_1, k_Si_11_2, k_Si_11_3, f_Si_11, l_Si_11⟩ := bk4 H_Si_11
  replace H_Si_11 := Lib.hid H_Si_11
  have H_Ss_11 := (hb11.block (w9.heap.size) (blk_lt' H_Ss_10.out)).trans H_Ss_10.out
  clear k_Ss_10_0 k_Ss_10_1 k_Ss_10_2 k_Ss_10_3 f_Ss_10 H_Ss_10
  obtain ⟨k_Ss_11_0, k_Ss_11_1, k_Ss_11_2, k_Ss_11_3, f_Ss_11, l_Ss_11⟩ := bk4 H_Ss_11
  replace H_Ss_11 := Lib.hid H_Ss_11
  have hB11 : Below w.heap.size w w11 := below_via hb11 (by assumption) (by first | exact hB10.size | go_size)
  clear hb11 T11
  replace H_I_11 := H_I_11.out
  replace H_K_11 := H_K_11.out
  replace H_Ai_11 := H_Ai_11.out
  replace H_As_11 := H_As_11.out
  replace H_Si_11 := H_Si_11.out
  replace H_Ss_11 := H_Ss_11.out
  refine chk (fun W => Below w.heap.size w W ∧ W.heap[w1.heap.size]? = some (.cells #[.int .i64 n1, .int .i64 d1, .int .i64 n2, .int .i64 d2] 26 (0, 0)) ∧ W.heap[w1.heap.size + 1]? = some (.cells #[.int .i64 n3, .int .i64 d3, .int .i64 n4, .int .i64 d4] 26 (0, 0)) ∧ W.heap[w3.heap.size]? = some (.cells #[.int .i64 A1, .int .i64 A2, .int .i64 A3, .int .i64 A4] 26 (0, 0)) ∧ W.heap[w5.heap.size]? = some (.cells #[.int .i64 A1, .int .i64 A2, .int .i64 A3, .int .i64 A4] 26 (0, 0)) ∧ W.heap[w7.heap.size]? = some (.cells #[.int .i64 S1, .int .i64 S2, .int .i64 S3, .int .i64 S4] 26 (0, 0)) ∧ W.heap[w9.heap.size]? = some (.cells #[.int .i64 S1, .int .i64 S2, .int .i64 S3, .int .i64 S4] 26 (0, 0)) ∧ W.heap[w11.heap.size]? = some (.cells #[.int .i64 M1, .int .i64 M2, .int .i64 M3, .int .i64 M4] 26 (0, 0))) (by refine ⟨?_, ?_, ?_, ?_, ?_, ?_, ?_, ?_⟩ <;> (repeat' first | (with_reducible first | assumption | (apply Ne.symm; assumption) | apply Nat.le_refl | apply Nat.le_add_right | apply zL | apply zRf | apply Wx.box | apply Wx.box4 | apply zWa | apply Wx.drew | apply zWn | apply bx_drew | apply bx_drewN | apply bx_set3 | apply bx_set2 | apply bx_set4 | apply bx_set1) | ((with_reducible apply bx_new); (focus (go_size; done))) | (with_reducible first | apply zOl | apply zFa | apply zDn | apply zDr | apply zAl | apply zSt | refine zVi (by assumption) ?_ ?_) | go_size | omega)) ?_
  clear k_I_11_0 k_I_11_1 k_I_11_2 k_I_11_3 f_I_11 H_I_11
  clear k_K_11_0 k_K_11_1 k_K_11_2 k_K_11_3 f_K_11 H_K_11
  clear k_Ai_11_0 k_Ai_11_1 k_Ai_11_2 k_Ai_11_3 f_Ai_11 H_Ai_11
  clear k_As_11_0 k_As_11_1 k_As_11_2 k_As_11_3 f_As_11 H_As_11
  clear k_Si_11_0 k_Si_11_1 k_Si_11_2 k_Si_11_3 f_Si_11 H_Si_11
  clear k_Ss_11_0 k_Ss_11_1 k_Ss_11_2 k_Ss_11_3 f_Ss_11 H_Ss_11
  clear hB11
  rintro w12 ⟨hB12, H_I_12, H_K_12, H_Ai_12, H_As_12, H_Si_12, H_Ss_12, H_Mi_12⟩
  obtain ⟨k_I_12_0, k_I_12_1, k_I_12_2, k_I_12_3, f_I_12, l_I_12⟩ := bk4 H_I_12
  replace H_I_12 := Lib.hid H_I_12
  obtain ⟨k_K_12_0, k_K_12_1, k_K_12_2, k_K_12_3, f_K_12, l_K_12⟩ := bk4 H_K_12
  replace H_K_12 := Lib.hid H_K_12
  obtain ⟨k_Ai_12_0, k_Ai_12_1, k_Ai_12_2, k_Ai_12_3, f_Ai_12, l_Ai_12⟩ := bk4 H_Ai_12
  replace H_Ai_12 := Lib.hid H_Ai_12
  obtain ⟨k_As_12_0, k_As_12_1, k_As_12_2, k_As_12_3, f_As_12, l_As_12⟩ := bk4 H_As_12
  replace H_As_12 := Lib.hid H_As_12
  obtain ⟨k_Si_12_0, k_Si_12_1, k_Si_12_2, k_Si_12_3, f_Si_12, l_Si_12⟩ := bk4 H_Si_12
  replace H_Si_12 := Lib.hid H_Si_12
  obtain ⟨k_Ss_12_0, k_Ss_12_1, k_Ss_12_2, k_Ss_12_3, f_Ss_12, l_Ss_12⟩ := bk4 H_Ss_12
  replace H_Ss_12 := Lib.hid H_Ss_12
  obtain ⟨k_Mi_12_0, k_Mi_12_1, k_Mi_12_2, k_Mi_12_3, f_Mi_12, l_Mi_12⟩ := bk4 H_Mi_12
  replace H_Mi_12 := Lib.hid H_Mi_12
  go_upto_region 10 with (first | (have _t := tok13; go_at_call 10; (with_reducible refine ((T13 _).out).mono ?_); rintro e w13 ⟨rfl, hb13⟩; clear tok13 _t; have hz13 := hb13.size; (try simp only [World.size_alloc, World.size_setCell, World.size_drew, World.size_drewN'] at hz13)))
  have H_I_13 := (hb13.block (w1.heap.size) (blk_lt' H_I_12.out)).trans H_I_12.out
  clear k_I_12_0 k_I_12_1 k_I_12_2 k_I_12_3 f_I_12 H_I_12
  obtain ⟨k_I_13_0, k_I_13_1, k_I_13_2, k_I_13_3, f_I_13, l_I_13⟩ := bk4 H_I_13
  replace H_I_13 := Lib.hid H_I_13
  have H_K_13 := (hb13.block (w1.heap.size + 1) (blk_lt' H_K_12.out)).trans H_K_12.out
  clear k_K_12_0 k_K_12_1 k_K_12_2 k_K_12_3 f_K_12 H_K_12
  obtain ⟨k_K_13_0, k_K_13_1, k_K_13_2, k_K_13_3, f_K_13, l_K_13⟩ := bk4 H_K_13
  replace H_K_13 := Lib.hid H_K_13
  have H_Ai_13 := (hb13.block (w3.heap.size) (blk_lt' H_Ai_12.out)).trans H_Ai_12.out
  clear k_Ai_12_0 k_Ai_12_1 k_Ai_12_2 k_Ai_12_3 f_Ai_12 H_Ai_12
  obtain ⟨k_Ai_13_0, k_Ai_13_1, k_Ai_13_2, k_Ai_13_3, f_Ai_13, l_Ai_13⟩ := bk4 H_Ai_13
  replace H_Ai_13 := Lib.hid H_Ai_13
  have H_As_13 := (hb13.block (w5.heap.size) (blk_lt' H_As_12.out)).trans H_As_12.out
  clear k_As_12_0 k_As_12_1 k_As_12_2 k_As_12_3 f_As_12 H_As_12
  obtain ⟨k_As_13_0, k_As_13_1, k_As_13_2, k_As_13_3, f_As_13, l_As_13⟩ := bk4 H_As_13
  replace H_As_13 := Lib.hid H_As_13
  have H_Si_13 := (hb13.block (w7.heap.size) (blk_lt' H_Si_12.out)).trans H_Si_12.out
  clear k_Si_12_0 k_Si_12_1 k_Si_12_2 k_Si_12_3 f_Si_12 H_Si_12
  obtain ⟨k_Si_13_0, k_Si_13_1, k_Si_13_2, k_Si_13_3, f_Si_13, l_Si_13⟩ := bk4 H_Si_13
  replace H_Si_13 := Lib.hid H_Si_13
  have H_Ss_13 := (hb13.block (w9.heap.size) (blk_lt' H_Ss_12.out)).trans H_Ss_12.out
  clear k_Ss_12_0 k_Ss_12_1 k_Ss_12_2 k_Ss_12_3 f_Ss_12 H_Ss_12
  obtain ⟨k_Ss_13_0, k_Ss_13_1, k_Ss_13_2, k_Ss_13_3, f_Ss_13, l_Ss_13⟩ := bk4 H_Ss_13
  replace H_Ss_13 := Lib.hid H_Ss_13
  have H_Mi_13 := (hb13.block (w11.heap.size) (blk_lt' H_Mi_12.out)).trans H_Mi_12.out
  clear k_Mi_12_0 k_Mi_12_1 k_Mi_12_2 k_Mi_12_3 f_Mi_12 H_Mi_12
  obtain ⟨k_Mi_13_0, k_Mi_13_1, k_Mi_13_2, k_Mi_13_3, f_Mi_13, l_Mi_13⟩ := bk4 H_Mi_13
  replace H_Mi_13 := Lib.hid H_Mi_13
  have hB13 : Below w.heap.size w w13 := below_via hb13 (by assumption) (by first | exact hB12.size | go_size)
  clear hb13 T13
  replace H_I_13 := H_I_13.out
  replace H_K_13 := H_K_13.out
  replace H_Ai_13 := H_Ai_13.out
  replace H_As_13 := H_As_13.out
  replace H_Si_13 := H_Si_13.out
  replace H_Ss_13 := H_Ss_13.out
  replace H_Mi_13 := H_Mi_13.out
  refine chk (fun W => Below w.heap.size w W ∧ W.heap[w1.heap.size]? = some (.cells #[.int .i64 n1, .int .i64 d1, .int .i64 n2, .int .i64 d2] 26 (0, 0)) ∧ W.heap[w1.heap.size + 1]? = some (.cells #[.int .i64 n3, .int .i64 d3, .int .i64 n4, .int .i64 d4] 26 (0, 0)) ∧ W.heap[w3.heap.size]? = some (.cells #[.int .i64 A1, .int .i64 A2, .int .i64 A3, .int .i64 A4] 26 (0, 0)) ∧ W.heap[w5.heap.size]? = some (.cells #[.int .i64 A1, .int .i64 A2, .int .i64 A3, .int .i64 A4] 26 (0, 0)) ∧ W.heap[w7.heap.size]? = some (.cells #[.int .i64 S1, .int .i64 S2, .int .i64 S3, .int .i64 S4] 26 (0, 0)) ∧ W.heap[w9.heap.size]? = some (.cells #[.int .i64 S1, .int .i64 S2, .int .i64 S3, .int .i64 S4] 26 (0, 0)) ∧ W.heap[w11.heap.size]? = some (.cells #[.int .i64 M1, .int .i64 M2, .int .i64 M3, .int .i64 M4] 26 (0, 0)) ∧ W.heap[w13.heap.size]? = some (.cells #[.int .i64 M1, .int .i64 M2, .int .i64 M3, .int .i64 M4] 26 (0, 0))) (by refine ⟨?_, ?_, ?_, ?_, ?_, ?_, ?_, ?_, ?_⟩ <;> (repeat' first | (with_reducible first | assumption | (apply Ne.symm; assumption) | apply Nat.le_refl | apply Nat.le_add_right | apply zL | apply zRf | apply Wx.box | apply Wx.box4 | apply zWa | apply Wx.drew | apply zWn | apply bx_drew | apply bx_drewN | apply bx_set3 | apply bx_set2 | apply bx_set4 | apply bx_set1) | ((with_reducible apply bx_new); (focus (go_size; done))) | (with_reducible first | apply zOl | apply zFa | apply zDn | apply zDr | apply zAl | apply zSt | refine zVi (by assumption) ?_ ?_) | go_size | omega)) ?_
  clear k_I_13_0 k_I_13_1 k_I_13_2 k_I_13_3 f_I_13 H_I_13
  clear k_K_13_0 k_K_13_1 k_K_13_2 k_K_13_3 f_K_13 H_K_13
  clear k_Ai_13_0 k_Ai_13_1 k_Ai_13_2 k_Ai_13_3 f_Ai_13 H_Ai_13
  clear k_As_13_0 k_As_13_1 k_As_13_2 k_As_13_3 f_As_13 H_As_13
  clear k_Si_13_0 k_Si_13_1 k_Si_13_2 k_Si_13_3 f_Si_13 H_Si_13
  clear k_Ss_13_0 k_Ss_13_1 k_Ss_13_2 k_Ss_13_3 f_Ss_13 H_Ss_13
  clear k_Mi_13_0 k_Mi_13_1 k_Mi_13_2 k_Mi_13_3 f_Mi_13 H_Mi_13
  clear hB13
  rintro w14 ⟨hB14, H_I_14, H_K_14, H_Ai_14, H_As_14, H_Si_14, H_Ss_14, H_Mi_14, H_Ms_14⟩
  obtain ⟨k_I_14_0, k_I_14_1, k_I_14_2, k_I_14_3, f_I_14, l_I_14⟩ := bk4 H_I_14
  replace H_I_14 := Lib.hid H_I_14
  obtain ⟨k_K_14_0, k_K_14_1, k_K_14_2, k_K_14_3, f_K_14, l_K_14⟩ := bk4 H_K_14
  replace H_K_14 := Lib.hid H_K_14
  obtain ⟨k_Ai_14_0, k_Ai_14_1, k_Ai_14_2, k_Ai_14_3, f_Ai_14, l_Ai_14⟩ := bk4 H_Ai_14
  replace H_Ai_14 := Lib.hid H_Ai_14
  obtain ⟨k_As_14_0, k_As_14_1, k_As_14_2, k_As_14_3, f_As_14, l_As_14⟩ := bk4 H_As_14
  replace H_As_14 := Lib.hid H_As_14
  obtain ⟨k_Si_14_0, k_Si_14_1, k_Si_14_2, k_Si_14_3, f_Si_14, l_Si_14⟩ := bk4 H_Si_14
  replace H_Si_14 := Lib.hid H_Si_14
  obtain ⟨k_Ss_14_0, k_Ss_14_1, k_Ss_14_2, k_Ss_14_3, f_Ss_14, l_Ss_14⟩ := bk4 H_Ss_14
  replace H_Ss_14 := Lib.hid H_Ss_14
  obtain ⟨k_Mi_14_0, k_Mi_14_1, k_Mi_14_2, k_Mi_14_3, f_Mi_14, l_Mi_14⟩ := bk4 H_Mi_14
  replace H_Mi_14 := Lib.hid H_Mi_14
  obtain ⟨k_Ms_14_0, k_Ms_14_1, k_Ms_14_2, k_Ms_14_3, f_Ms_14, l_Ms_14⟩ := bk4 H_Ms_14
  replace H_Ms_14 := Lib.hid H_Ms_14
  go_upto_region 11 with (first | (have _t := tok15; go_at_call 11; (with_reducible refine ((T15 _).out).mono ?_); rintro e w15 ⟨rfl, hb15⟩; clear tok15 _t; have hz15 := hb15.size; (try simp only [World.size_alloc, World.size_setCell, World.size_drew, World.size_drewN'] at hz15)))
  have H_I_15 := (hb15.block (w1.heap.size) (blk_lt' H_I_14.out)).trans H_I_14.out
  clear k_I_14_0 k_I_14_1 k_I_14_2 k_I_14_3 f_I_14 H_I_14
  obtain ⟨k_I_15_0, k_I_15_1, k_I_15_2, k_I_15_3, f_I_15, l_I_15⟩ := bk4 H_I_15
  replace H_I_15 := Lib.hid H_I_15
  have H_K_15 := (hb15.block (w1.heap.size + 1) (blk_lt' H_K_14.out)).trans H_K_14.out
  clear k_K_14_0 k_K_14_1 k_K_14_2 k_K_14_3 f_K_14 H_K_14
  obtain ⟨k_K_15_0, k_K_15_1, k_K_15_2, k_K_15_3, f_K_15, l_K_15⟩ := bk4 H_K_15
  replace H_K_15 := Lib.hid H_K_15
  have H_Ai_15 := (hb15.block (w3.heap.size) (blk_lt' H_Ai_14.out)).trans H_Ai_14.out
  clear k_Ai_14_0 k_Ai_14_1 k_Ai_14_2 k_Ai_14_3 f_Ai_14 H_Ai_14
  obtain ⟨k_Ai_15_0, k_Ai_15_1, k_Ai_15_2, k_Ai_15_3, f_Ai_15, l_Ai_15⟩ := bk4 H_Ai_15
  replace H_Ai_15 := Lib.hid H_Ai_15
  have H_As_15 := (hb15.block (w5.heap.size) (blk_lt' H_As_14.out)).trans H_As_14.out
  clear k_As_14_0 k_As_14_1 k_As_14_2 k_As_14_3 f_As_14 H_As_14
  obtain ⟨k_As_15_0, k_As_15_1, k_As_15_2, k_As_15_3, f_As_15, l_As_15⟩ := bk4 H_As_15
  replace H_As_15 := Lib.hid H_As_15
  have H_Si_15 := (hb15.block (w7.heap.size) (blk_lt' H_Si_14.out)).trans H_Si_14.out
  clear k_Si_14_0 k_Si_14_1 k_Si_14_2 k_Si_14_3 f_Si_14 H_Si_14
  obtain ⟨k_Si_15_0, k_Si_15_1, k_Si_15_2, k_Si_15_3, f_Si_15, l_Si_15⟩ := bk4 H_Si_15
  replace H_Si_15 := Lib.hid H_Si_15
  have H_Ss_15 := (hb15.block (w9.heap.size) (blk_lt' H_Ss_14.out)).trans H_Ss_14.out
  clear k_Ss_14_0 k_Ss_14_1 k_Ss_14_2 k_Ss_14_3 f_Ss_14 H_Ss_14
  obtain ⟨k_Ss_15_0, k_Ss_15_1, k_Ss_15_2, k_Ss_15_3, f_Ss_15, l_Ss_15⟩ := bk4 H_Ss_15
  replace H_Ss_15 := Lib.hid H_Ss_15
  have H_Mi_15 := (hb15.block (w11.heap.size) (blk_lt' H_Mi_14.out)).trans H_Mi_14.out
  clear k_Mi_14_0 k_Mi_14_1 k_Mi_14_2 k_Mi_14_3 f_Mi_14 H_Mi_14
  obtain ⟨k_Mi_15_0, k_Mi_15_1, k_Mi_15_2, k_Mi_15_3, f_Mi_15, l_Mi_15⟩ := bk4 H_Mi_15
  replace H_Mi_15 := Lib.hid H_Mi_15
  have H_Ms_15 := (hb15.block (w13.heap.size) (blk_lt' H_Ms_14.out)).trans H_Ms_14.out
  clear k_Ms_14_0 k_Ms_14_1 k_Ms_14_2 k_Ms_14_3 f_Ms_14 H_Ms_14
  obtain ⟨k_Ms_15_0, k_Ms_15_1, k_Ms_15_2, k_Ms_15_3, f_Ms_15, l_Ms_15⟩ := bk4 H_Ms_15
  replace H_Ms_15 := Lib.hid H_Ms_15
  have hB15 : Below w.heap.size w w15 := below_via hb15 (by assumption) (by first | exact hB14.size | go_size)
  clear hb15 T15
  replace H_I_15 := H_I_15.out
  replace H_K_15 := H_K_15.out
  replace H_Ai_15 := H_Ai_15.out
  replace H_As_15 := H_As_15.out
  replace H_Si_15 := H_Si_15.out
  replace H_Ss_15 := H_Ss_15.out
  replace H_Mi_15 := H_Mi_15.out
  replace H_Ms_15 := H_Ms_15.out
  refine chk (fun W => Below w.heap.size w W ∧ W.heap[w1.heap.size]? = some (.cells #[.int .i64 n1, .int .i64 d1, .int .i64 n2, .int .i64 d2] 26 (0, 0)) ∧ W.heap[w1.heap.size + 1]? = some (.cells #[.int .i64 n3, .int .i64 d3, .int .i64 n4, .int .i64 d4] 26 (0, 0)) ∧ W.heap[w3.heap.size]? = some (.cells #[.int .i64 A1, .int .i64 A2, .int .i64 A3, .int .i64 A4] 26 (0, 0)) ∧ W.heap[w5.heap.size]? = some (.cells #[.int .i64 A1, .int .i64 A2, .int .i64 A3, .int .i64 A4] 26 (0, 0)) ∧ W.heap[w7.heap.size]? = some (.cells #[.int .i64 S1, .int .i64 S2, .int .i64 S3, .int .i64 S4] 26 (0, 0)) ∧ W.heap[w9.heap.size]? = some (.cells #[.int .i64 S1, .int .i64 S2, .int .i64 S3, .int .i64 S4] 26 (0, 0)) ∧ W.heap[w11.heap.size]? = some (.cells #[.int .i64 M1, .int .i64 M2, .int .i64 M3, .int .i64 M4] 26 (0, 0)) ∧ W.heap[w13.heap.size]? = some (.cells #[.int .i64 M1, .int .i64 M2, .int .i64 M3, .int .i64 M4] 26 (0, 0)) ∧ W.heap[w15.heap.size]? = some (.cells #[.int .i64 D1, .int .i64 D2, .int .i64 D3, .int .i64 D4] 26 (0, 0))) (by refine ⟨?_, ?_, ?_, ?_, ?_, ?_, ?_, ?_, ?_, ?_⟩ <;> (repeat' first | (with_reducible first | assumption | (apply Ne.symm; assumption) | apply Nat.le_refl | apply Nat.le_add_right | apply zL | apply zRf | apply Wx.box | apply Wx.box4 | apply zWa | apply Wx.drew | apply zWn | apply bx_drew | apply bx_drewN | apply bx_set3 | apply bx_set2 | apply bx_set4 | apply bx_set1) | ((with_reducible apply bx_new); (focus (go_size; done))) | (with_reducible first | apply zOl | apply zFa | apply zDn | apply zDr | apply zAl | apply zSt | refine zVi (by assumption) ?_ ?_) | go_size | omega)) ?_
  clear k_I_15_0 k_I_15_1 k_I_15_2 k_I_15_3 f_I_15 H_I_15
  clear k_K_15_0 k_K_15_1 k_K_15_2 k_K_15_3 f_K_15 H_K_15
  clear k_Ai_15_0 k_Ai_15_1 k_Ai_15_2 k_Ai_15_3 f_Ai_15 H_Ai_15
  clear k_As_15_0 k_As_15_1 k_As_15_2 k_As_15_3 f_As_15 H_As_15
  clear k_Si_15_0 k_Si_15_1 k_Si_15_2 k_Si_15_3 f_Si_15 H_Si_15
  clear k_Ss_15_0 k_Ss_15_1 k_Ss_15_2 k_Ss_15_3 f_Ss_15 H_Ss_15
  clear k_Mi_15_0 k_Mi_15_1 k_Mi_15_2 k_Mi_15_3 f_Mi_15 H_Mi_15
  clear k_Ms_15_0 k_Ms_15_1 k_Ms_15_2 k_Ms_15_3 f_Ms_15 H_Ms_15
  clear hB15
  rintro w16 ⟨hB16, H_I_16, H_K_16, H_Ai_16, H_As_16, H_Si_16, H_Ss_16, H_Mi_16, H_Ms_16, H_Di_16⟩
  obtain ⟨k_I_16_0, k_I_16_1, k_I_16_2, k_I_16_3, f_I_16, l_I_16⟩ := bk4 H_I_16
  replace H_I_16 := Lib.hid H_I_16
  obtain ⟨k_K_16_0, k_K_16_1, k_K_16_2, k_K_16_3, f_K_16, l_K_16⟩ := bk4 H_K_16
  replace H_K_16 := Lib.hid H_K_16
  obtain ⟨k_Ai_16_0, k_Ai_16_1, k_Ai_16_2, k_Ai_16_3, f_Ai_16, l_Ai_16⟩ := bk4 H_Ai_16
  replace H_Ai_16 := Lib.hid H_Ai_16
  obtain ⟨k_As_16_0, k_As_16_1, k_As_16_2, k_As_16_3, f_As_16, l_As_16⟩ := bk4 H_As_16
  replace H_As_16 := Lib.hid H_As_16
  obtain ⟨k_Si_16_0, k_Si_16_1, k_Si_16_2, k_Si_16_3, f_Si_16, l_Si_16⟩ := bk4 H_Si_16
  replace H_Si_16 := Lib.hid H_Si_16
  obtain ⟨k_Ss_16_0, k_Ss_16_1, k_Ss_16_2, k_Ss_16_3, f_Ss_16, l_Ss_16⟩ := bk4 H_Ss_16
  replace H_Ss_16 := Lib.hid H_Ss_16
  obtain ⟨k_Mi_16_0, k_Mi_16_1, k_Mi_16_2, k_Mi_16_3, f_Mi_16, l_Mi_16⟩ := bk4 H_Mi_16
  replace H_Mi_16 := Lib.hid H_Mi_16
  obtain ⟨k_Ms_16_0, k_Ms_16_1, k_Ms_16_2, k_Ms_16_3, f_Ms_16, l_Ms_16⟩ := bk4 H_Ms_16
  replace H_Ms_16 := Lib.hid H_Ms_16
  obtain ⟨k_Di_16_0, k_Di_16_1, k_Di_16_2, k_Di_16_3, f_Di_16, l_Di_16⟩ := bk4 H_Di_16
  replace H_Di_16 := Lib.hid H_Di_16
  go_upto_region 12 with (first | (have _t := tok17; go_at_call 12; (with_reducible refine ((T17 _).out).mono ?_); rintro e w17 ⟨rfl, hb17⟩; clear tok17 _t; have hz17 := hb17.size; (try simp only [World.size_alloc, World.size_setCell, World.size_drew, World.size_drewN'] at hz17)))
  have H_I_17 := (hb17.block (w1.heap.size) (blk_lt' H_I_16.out)).trans H_I_16.out
  clear k_I_16_0 k_I_16_1 k_I_16_2 k_I_16_3 f_I_16 H_I_16
  obtain ⟨k_I_17_0, k_I_17_1, k_I_17_2, k_I_17_3, f_I_17, l_I_17⟩ := bk4 H_I_17
  replace H_I_17 := Lib.hid H_I_17
  have H_K_17 := (hb17.block (w1.heap.size + 1) (blk_lt' H_K_16.out)).trans H_K_16.out
  clear k_K_16_0 k_K_16_1 k_K_16_2 k_K_16_3 f_K_16 H_K_16
  obtain ⟨k_K_17_0, k_K_17_1, k_K_17_2, k_K_17_3, f_K_17, l_K_17⟩ := bk4 H_K_17
  replace H_K_17 := Lib.hid H_K_17
  have H_Ai_17 := (hb17.block (w3.heap.size) (blk_lt' H_Ai_16.out)).trans H_Ai_16.out
  clear k_Ai_16_0 k_Ai_16_1 k_Ai_16_2 k_Ai_16_3 f_Ai_16 H_Ai_16
  obtain ⟨k_Ai_17_0, k_Ai_17_1, k_Ai_17_2, k_Ai_17_3, f_Ai_17, l_Ai_17⟩ := bk4 H_Ai_17
  replace H_Ai_17 := Lib.hid H_Ai_17
  have H_As_17 := (hb17.block (w5.heap.size) (blk_lt' H_As_16.out)).trans H_As_16.out
  clear k_As_16_0 k_As_16_1 k_As_16_2 k_As_16_3 f_As_16 H_As_16
  obtain ⟨k_As_17_0, k_As_17_1, k_As_17_2, k_As_17_3, f_As_17, l_As_17⟩ := bk4 H_As_17
  replace H_As_17 := Lib.hid H_As_17
  have H_Si_17 := (hb17.block (w7.heap.size) (blk_lt' H_Si_16.out)).trans H_Si_16.out
  clear k_Si_16_0 k_Si_16_1 k_Si_16_2 k_Si_16_3 f_Si_16 H_Si_16
  obtain ⟨k_Si_17_0, k_Si_17_1, k_Si_17_2, k_Si_17_3, f_Si_17, l_Si_17⟩ := bk4 H_Si_17
  replace H_Si_17 := Lib.hid H_Si_17
  have H_Ss_17 := (hb17.block (w9.heap.size) (blk_lt' H_Ss_16.out)).trans H_Ss_16.out
  clear k_Ss_16_0 k_Ss_16_1 k_Ss_16_2 k_Ss_16_3 f_Ss_16 H_Ss_16
  obtain ⟨k_Ss_17_0, k_Ss_17_1, k_Ss_17_2, k_Ss_17_3, f_Ss_17, l_Ss_17⟩ := bk4 H_Ss_17
  replace H_Ss_17 := Lib.hid H_Ss_17
  have H_Mi_17 := (hb17.block (w11.heap.size) (blk_lt' H_Mi_16.out)).trans H_Mi_16.out
  clear k_Mi_16_0 k_Mi_16_1 k_Mi_16_2 k_Mi_16_3 f_Mi_16 H_Mi_16
  obtain ⟨k_Mi_17_0, k_Mi_17_1, k_Mi_17_2, k_Mi_17_3, f_Mi_17, l_Mi_17⟩ := bk4 H_Mi_17
  replace H_Mi_17 := Lib.hid H_Mi_17
  have H_Ms_17 := (hb17.block (w13.heap.size) (blk_lt' H_Ms_16.out)).trans H_Ms_16.out
  clear k_Ms_16_0 k_Ms_16_1 k_Ms_16_2 k_Ms_16_3 f_Ms_16 H_Ms_16
  obtain ⟨k_Ms_17_0, k_Ms_17_1, k_Ms_17_2, k_Ms_17_3, f_Ms_17, l_Ms_17⟩ := bk4 H_Ms_17
  replace H_Ms_17 := Lib.hid H_Ms_17
  have H_Di_17 := (hb17.block (w15.heap.size) (blk_lt' H_Di_16.out)).trans H_Di_16.out
  clear k_Di_16_0 k_Di_16_1 k_Di_16_2 k_Di_16_3 f_Di_16 H_Di_16
  obtain ⟨k_Di_17_0, k_Di_17_1, k_Di_17_2, k_Di_17_3, f_Di_17, l_Di_17⟩ := bk4 H_Di_17
  replace H_Di_17 := Lib.hid H_Di_17
  have hB17 : Below w.heap.size w w17 := below_via hb17 (by assumption) (by first | exact hB16.size | go_size)
  clear hb17 T17
  replace H_I_17 := H_I_17.out
  replace H_K_17 := H_K_17.out
  replace H_Ai_17 := H_Ai_17.out
  replace H_As_17 := H_As_17.out
  replace H_Si_17 := H_Si_17.out
  replace H_Ss_17 := H_Ss_17.out
  replace H_Mi_17 := H_Mi_17.out
  replace H_Ms_17 := H_Ms_17.out
  replace H_Di_17 := H_Di_17.out
  refine chk (fun W => Below w.heap.size w W ∧ W.heap[w1.heap.size]? = some (.cells #[.int .i64 n1, .int .i64 d1, .int .i64 n2, .int .i64 d2] 26 (0, 0)) ∧ W.heap[w1.heap.size + 1]? = some (.cells #[.int .i64 n3, .int .i64 d3, .int .i64 n4, .int .i64 d4] 26 (0, 0)) ∧ W.heap[w3.heap.size]? = some (.cells #[.int .i64 A1, .int .i64 A2, .int .i64 A3, .int .i64 A4] 26 (0, 0)) ∧ W.heap[w5.heap.size]? = some (.cells #[.int .i64 A1, .int .i64 A2, .int .i64 A3, .int .i64 A4] 26 (0, 0)) ∧ W.heap[w7.heap.size]? = some (.cells #[.int .i64 S1, .int .i64 S2, .int .i64 S3, .int .i64 S4] 26 (0, 0)) ∧ W.heap[w9.heap.size]? = some (.cells #[.int .i64 S1, .int .i64 S2, .int .i64 S3, .int .i64 S4] 26 (0, 0)) ∧ W.heap[w11.heap.size]? = some (.cells #[.int .i64 M1, .int .i64 M2, .int .i64 M3, .int .i64 M4] 26 (0, 0)) ∧ W.heap[w13.heap.size]? = some (.cells #[.int .i64 M1, .int .i64 M2, .int .i64 M3, .int .i64 M4] 26 (0, 0)) ∧ W.heap[w15.heap.size]? = some (.cells #[.int .i64 D1, .int .i64 D2, .int .i64 D3, .int .i64 D4] 26 (0, 0)) ∧ W.heap[w17.heap.size]? = some (.cells #[.int .i64 D1, .int .i64 D2, .int .i64 D3, .int .i64 D4] 26 (0, 0))) (by refine ⟨?_, ?_, ?_, ?_, ?_, ?_, ?_, ?_, ?_, ?_, ?_⟩ <;> (repeat' first | (with_reducible first | assumption | (apply Ne.symm; assumption) | apply Nat.le_refl | apply Nat.le_add_right | apply zL | apply zRf | apply Wx.box | apply Wx.box4 | apply zWa | apply Wx.drew | apply zWn | apply bx_drew | apply bx_drewN | apply bx_set3 | apply bx_set2 | apply bx_set4 | apply bx_set1) | ((with_reducible apply bx_new); (focus (go_size; done))) | (with_reducible first | apply zOl | apply zFa | apply zDn | apply zDr | apply zAl | apply zSt | refine zVi (by assumption) ?_ ?_) | go_size | omega)) ?_
  clear k_I_17_0 k_I_17_1 k_I_17_2 k_I_17_3 f_I_17 H_I_17
  clear k_K_17_0 k_K_17_1 k_K_17_2 k_K_17_3 f_K_17 H_K_17
  clear k_Ai_17_0 k_Ai_17_1 k_Ai_17_2 k_Ai_17_3 f_Ai_17 H_Ai_17
  clear k_As_17_0 k_As_17_1 k_As_17_2 k_As_17_3 f_As_17 H_As_17
  clear k_Si_17_0 k_Si_17_1 k_Si_17_2 k_Si_17_3 f_Si_17 H_Si_17
  clear k_Ss_17_0 k_Ss_17_1 k_Ss_17_2 k_Ss_17_3 f_Ss_17 H_Ss_17
  clear k_Mi_17_0 k_Mi_17_1 k_Mi_17_2 k_Mi_17_3 f_Mi_17 H_Mi_17
  clear k_Ms_17_0 k_Ms_17_1 k_Ms_17_2 k_Ms_17_3 f_Ms_17 H_Ms_17
  clear k_Di_17_0 k_Di_17_1 k_Di_17_2 k_Di_17_3 f_Di_17 H_Di_17
  clear hB17
  rintro w18 ⟨hB18, H_I_18, H_K_18, H_Ai_18, H_As_18, H_Si_18, H_Ss_18, H_Mi_18, H_Ms_18, H_Di_18, H_Ds_18⟩
  obtain ⟨k_I_18_0, k_I_18_1, k_I_18_2, k_I_18_3, f_I_18, l_I_18⟩ := bk4 H_I_18
  replace H_I_18 := Lib.hid H_I_18
  obtain ⟨k_K_18_0, k_K_18_1, k_K_18_2, k_K_18_3, f_K_18, l_K_18⟩ := bk4 H_K_18
  replace H_K_18 := Lib.hid H_K_18
  obtain ⟨k_Ai_18_0, k_Ai_18_1, k_Ai_18_2, k_Ai_18_3, f_Ai_18, l_Ai_18⟩ := bk4 H_Ai_18
  replace H_Ai_18 := Lib.hid H_Ai_18
  obtain ⟨k_As_18_0, k_As_18_1, k_As_18_2, k_As_18_3, f_As_18, l_As_18⟩ := bk4 H_As_18
  replace H_As_18 := Lib.hid H_As_18
  obtain ⟨k_Si_18_0, k_Si_18_1, k_Si_18_2, k_Si_18_3, f_Si_18, l_Si_18⟩ := bk4 H_Si_18
  replace H_Si_18 := Lib.hid H_Si_18
  obtain ⟨k_Ss_18_0, k_Ss_18_1, k_Ss_18_2, k_Ss_18_3, f_Ss_18, l_Ss_18⟩ := bk4 H_Ss_18
  replace H_Ss_18 := Lib.hid H_Ss_18
  obtain ⟨k_Mi_18_0, k_Mi_18_1, k_Mi_18_2, k_Mi_18_3, f_Mi_18, l_Mi_18⟩ := bk4 H_Mi_18
  replace H_Mi_18 := Lib.hid H_Mi_18
  obtain ⟨k_Ms_18_0, k_Ms_18_1, k_Ms_18_2, k_Ms_18_3, f_Ms_18, l_Ms_18⟩ := bk4 H_Ms_18
  replace H_Ms_18 := Lib.hid H_Ms_18
  obtain ⟨k_Di_18_0, k_Di_18_1, k_Di_18_2, k_Di_18_3, f_Di_18, l_Di_18⟩ := bk4 H_Di_18
  replace H_Di_18 := Lib.hid H_Di_18
  obtain ⟨k_Ds_18_0, k_Ds_18_1, k_Ds_18_2, k_Ds_18_3, f_Ds_18, l_Ds_18⟩ := bk4 H_Ds_18
  replace H_Ds_18 := Lib.hid H_Ds_18
  go_upto_region 13 with (first | (have _t := tok19; go_at_call 13; (with_reducible refine ((T19 _).out).mono ?_); rintro e w19 ⟨rfl, hb19⟩; clear tok19 _t; have hz19 := hb19.size; (try simp only [World.size_alloc, World.size_setCell, World.size_drew, World.size_drewN'] at hz19)))
  have H_I_19 := (hb19.block (w1.heap.size) (blk_lt' H_I_18.out)).trans H_I_18.out
  clear k_I_18_0 k_I_18_1 k_I_18_2 k_I_18_3 f_I_18 H_I_18
  obtain ⟨k_I_19_0, k_I_19_1, k_I_19_2, k_I_19_3, f_I_19, l_I_19⟩ := bk4 H_I_19
  replace H_I_19 := Lib.hid H_I_19
  have H_K_19 := (hb19.block (w1.heap.size + 1) (blk_lt' H_K_18.out)).trans H_K_18.out
  clear k_K_18_0 k_K_18_1 k_K_18_2 k_K_18_3 f_K_18 H_K_18
  obtain ⟨k_K_19_0, k_K_19_1, k_K_19_2, k_K_19_3, f_K_19, l_K_19⟩ := bk4 H_K_19
  replace H_K_19 := Lib.hid H_K_19
  have H_Ai_19 := (hb19.block (w3.heap.size) (blk_lt' H_Ai_18.out)).trans H_Ai_18.out
  clear k_Ai_18_0 k_Ai_18_1 k_Ai_18_2 k_Ai_18_3 f_Ai_18 H_Ai_18
  obtain ⟨k_Ai_19_0, k_Ai_19_1, k_Ai_19_2, k_Ai_19_3, f_Ai_19, l_Ai_19⟩ := bk4 H_Ai_19
  replace H_Ai_19 := Lib.hid H_Ai_19
  have H_As_19 := (hb19.block (w5.heap.size) (blk_lt' H_As_18.out)).trans H_As_18.out
  clear k_As_18_0 k_As_18_1 k_As_18_2 k_As_18_3 f_As_18 H_As_18
  obtain ⟨k_As_19_0, k_As_19_1, k_As_19_2, k_As_19_3, f_As_19, l_As_19⟩ := bk4 H_As_19
  replace H_As_19 := Lib.hid H_As_19
  have H_Si_19 := (hb19.block (w7.heap.size) (blk_lt' H_Si_18.out)).trans H_Si_18.out
  clear k_Si_18_0 k_Si_18_1 k_Si_18_2 k_Si_18_3 f_Si_18 H_Si_18
  obtain ⟨k_Si_19_0, k_Si_19_1, k_Si_19_2, k_Si_19_3, f_Si_19, l_Si_19⟩ := bk4 H_Si_19
  replace H_Si_19 := Lib.hid H_Si_19
  have H_Ss_19 := (hb19.block (w9.heap.size) (blk_lt' H_Ss_18.out)).trans H_Ss_18.out
  clear k_Ss_18_0 k_Ss_18_1 k_Ss_18_2 k_Ss_18_3 f_Ss_18 H_Ss_18
  obtain ⟨k_Ss_19_0, k_Ss_19_1, k_Ss_19_2, k_Ss_19_3, f_Ss_19, l_Ss_19⟩ := bk4 H_Ss_19
  replace H_Ss_19 := Lib.hid H_Ss_19
  have H_Mi_19 := (hb19.block (w11.heap.size) (blk_lt' H_Mi_18.out)).trans H_Mi_18.out
  clear k_Mi_18_0 k_Mi_18_1 k_Mi_18_2 k_Mi_18_3 f_Mi_18 H_Mi_18
  obtain ⟨k_Mi_19_0, k_Mi_19_1, k_Mi_19_2, k_Mi_19_3, f_Mi_19, l_Mi_19⟩ := bk4 H_Mi_19
  replace H_Mi_19 := Lib.hid H_Mi_19
  have H_Ms_19 := (hb19.block (w13.heap.size) (blk_lt' H_Ms_18.out)).trans H_Ms_18.out
  clear k_Ms_18_0 k_Ms_18_1 k_Ms_18_2 k_Ms_18_3 f_Ms_18 H_Ms_18
  obtain ⟨k_Ms_19_0, k_Ms_19_1, k_Ms_19_2, k_Ms_19_3, f_Ms_19, l_Ms_19⟩ := bk4 H_Ms_19
  replace H_Ms_19 := Lib.hid H_Ms_19
  have H_Di_19 := (hb19.block (w15.heap.size) (blk_lt' H_Di_18.out)).trans H_Di_18.out
  clear k_Di_18_0 k_Di_18_1 k_Di_18_2 k_Di_18_3 f_Di_18 H_Di_18
  obtain ⟨k_Di_19_0, k_Di_19_1, k_Di_19_2, k_Di_19_3, f_Di_19, l_Di_19⟩ := bk4 H_Di_19
  replace H_Di_19 := Lib.hid H_Di_19
  have H_Ds_19 := (hb19.block (w17.heap.size) (blk_lt' H_Ds_18.out)).trans H_Ds_18.out
  clear k_Ds_18_0 k_Ds_18_1 k_Ds_18_2 k_Ds_18_3 f_Ds_18 H_Ds_18
  obtain ⟨k_Ds_19_0, k_Ds_19_1, k_Ds_19_2, k_Ds_19_3, f_Ds_19, l_Ds_19⟩ := bk4 H_Ds_19
  replace H_Ds_19 := Lib.hid H_Ds_19
  have hB19 : Below w.heap.size w w19 := below_via hb19 (by assumption) (by first | exact hB18.size | go_size)
  clear hb19 T19
  replace H_I_19 := H_I_19.out
  replace H_K_19 := H_K_19.out
  replace H_Ai_19 := H_Ai_19.out
  replace H_As_19 := H_As_19.out
  replace H_Si_19 := H_Si_19.out
  replace H_Ss_19 := H_Ss_19.out
  replace H_Mi_19 := H_Mi_19.out
  replace H_Ms_19 := H_Ms_19.out
  replace H_Di_19 := H_Di_19.out
  replace H_Ds_19 := H_Ds_19.out
  refine chk (fun W => Below w.heap.size w W ∧ W.heap[w1.heap.size]? = some (.cells #[.int .i64 n1, .int .i64 d1, .int .i64 n2, .int .i64 d2] 26 (0, 0)) ∧ W.heap[w1.heap.size + 1]? = some (.cells #[.int .i64 n3, .int .i64 d3, .int .i64 n4, .int .i64 d4] 26 (0, 0)) ∧ W.heap[w3.heap.size]? = some (.cells #[.int .i64 A1, .int .i64 A2, .int .i64 A3, .int .i64 A4] 26 (0, 0)) ∧ W.heap[w5.heap.size]? = some (.cells #[.int .i64 A1, .int .i64 A2, .int .i64 A3, .int .i64 A4] 26 (0, 0)) ∧ W.heap[w7.heap.size]? = some (.cells #[.int .i64 S1, .int .i64 S2, .int .i64 S3, .int .i64 S4] 26 (0, 0)) ∧ W.heap[w9.heap.size]? = some (.cells #[.int .i64 S1, .int .i64 S2, .int .i64 S3, .int .i64 S4] 26 (0, 0)) ∧ W.heap[w11.heap.size]? = some (.cells #[.int .i64 M1, .int .i64 M2, .int .i64 M3, .int .i64 M4] 26 (0, 0)) ∧ W.heap[w13.heap.size]? = some (.cells #[.int .i64 M1, .int .i64 M2, .int .i64 M3, .int .i64 M4] 26 (0, 0)) ∧ W.heap[w15.heap.size]? = some (.cells #[.int .i64 D1, .int .i64 D2, .int .i64 D3, .int .i64 D4] 26 (0, 0)) ∧ W.heap[w17.heap.size]? = some (.cells #[.int .i64 D1, .int .i64 D2, .int .i64 D3, .int .i64 D4] 26 (0, 0)) ∧ W.heap[w19.heap.size]? = some (.cells #[.int .i64 H1, .int .i64 H2, .int .i64 H3, .int .i64 H4] 26 (0, 0))) (by refine ⟨?_, ?_, ?_, ?_, ?_, ?_, ?_, ?_, ?_, ?_, ?_, ?_⟩ <;> (repeat' first | (with_reducible first | assumption | (apply Ne.symm; assumption) | apply Nat.le_refl | apply Nat.le_add_right | apply zL | apply zRf | apply Wx.box | apply Wx.box4 | apply zWa | apply Wx.drew | apply zWn | apply bx_drew | apply bx_drewN | apply bx_set3 | apply bx_set2 | apply bx_set4 | apply bx_set1) | ((with_reducible apply bx_new); (focus (go_size; done))) | (with_reducible first | apply zOl | apply zFa | apply zDn | apply zDr | apply zAl | apply zSt | refine zVi (by assumption) ?_ ?_) | go_size | omega)) ?_
  clear k_I_19_0 k_I_19_1 k_I_19_2 k_I_19_3 f_I_19 H_I_19
  clear k_K_19_0 k_K_19_1 k_K_19_2 k_K_19_3 f_K_19 H_K_19
  clear k_Ai_19_0 k_Ai_19_1 k_Ai_19_2 k_Ai_19_3 f_Ai_19 H_Ai_19
  clear k_As_19_0 k_As_19_1 k_As_19_2 k_As_19_3 f_As_19 H_As_19
  clear k_Si_19_0 k_Si_19_1 k_Si_19_2 k_Si_19_3 f_Si_19 H_Si_19
  clear k_Ss_19_0 k_Ss_19_1 k_Ss_19_2 k_Ss_19_3 f_Ss_19 H_Ss_19
  clear k_Mi_19_0 k_Mi_19_1 k_Mi_19_2 k_Mi_19_3 f_Mi_19 H_Mi_19
  clear k_Ms_19_0 k_Ms_19_1 k_Ms_19_2 k_Ms_19_3 f_Ms_19 H_Ms_19
  clear k_Di_19_0 k_Di_19_1 k_Di_19_2 k_Di_19_3 f_Di_19 H_Di_19
  clear k_Ds_19_0 k_Ds_19_1 k_Ds_19_2 k_Ds_19_3 f_Ds_19 H_Ds_19
  clear hB19
  rintro w20 ⟨hB20, H_I_20, H_K_20, H_Ai_20, H_As_20, H_Si_20, H_Ss_20, H_Mi_20, H_Ms_20, H_Di_20, H_Ds_20, H_Hi_20⟩
  obtain ⟨k_I_20_0, k_I_20_1, k_I_20_2, k_I_20_3, f_I_20, l_I_20⟩ := bk4 H_I_20
  replace H_I_20 := Lib.hid H_I_20
  obtain ⟨k_K_20_0, k_K_20_1, k_K_20_2, k_K_20_3, f_K_20, l_K_20⟩ := bk4 H_K_20
  replace H_K_20 := Lib.hid H_K_20
  obtain ⟨k_Ai_20_0, k_Ai_20_1, k_Ai_20_2, k_Ai_20_3, f_Ai_20, l_Ai_20⟩ := bk4 H_Ai_20
  replace H_Ai_20 := Lib.hid H_Ai_20
  obtain ⟨k_As_20_0, k_As_20_1, k_As_20_2, k_As_20_3, f_As_20, l_As_20⟩ := bk4 H_As_20
  replace H_As_20 := Lib.hid H_As_20
  obtain ⟨k_Si_20_0, k_Si_20_1, k_Si_20_2, k_Si_20_3, f_Si_20, l_Si_20⟩ := bk4 H_Si_20
  replace H_Si_20 := Lib.hid H_Si_20
  obtain ⟨k_Ss_20_0, k_Ss_20_1, k_Ss_20_2, k_Ss_20_3, f_Ss_20, l_Ss_20⟩ := bk4 H_Ss_20
  replace H_Ss_20 := Lib.hid H_Ss_20
  obtain ⟨k_Mi_20_0, k_Mi_20_1, k_Mi_20_2, k_Mi_20_3, f_Mi_20, l_Mi_20⟩ := bk4 H_Mi_20
  replace H_Mi_20 := Lib.hid H_Mi_20
  obtain ⟨k_Ms_20_0, k_Ms_20_1, k_Ms_20_2, k_Ms_20_3, f_Ms_20, l_Ms_20⟩ := bk4 H_Ms_20
  replace H_Ms_20 := Lib.hid H_Ms_20
  obtain ⟨k_Di_20_0, k_Di_20_1, k_Di_20_2, k_Di_20_3, f_Di_20, l_Di_20⟩ := bk4 H_Di_20
  replace H_Di_20 := Lib.hid H_Di_20
  obtain ⟨k_Ds_20_0, k_Ds_20_1, k_Ds_20_2, k_Ds_20_3, f_Ds_20, l_Ds_20⟩ := bk4 H_Ds_20
  replace H_Ds_20 := Lib.hid H_Ds_20
  obtain ⟨k_Hi_20_0, k_Hi_20_1, k_Hi_20_2, k_Hi_20_3, f_Hi_20, l_Hi_20⟩ := bk4 H_Hi_20
  replace H_Hi_20 := Lib.hid H_Hi_20
  go_upto_region 14 with (first | (have _t := tok21; go_at_call 14; (with_reducible refine ((T21 _).out).mono ?_); rintro e w21 ⟨rfl, hb21⟩; clear tok21 _t; have hz21 := hb21.size; (try simp only [World.size_alloc, World.size_setCell, World.size_drew, World.size_drewN'] at hz21)))
  have H_I_21 := (hb21.block (w1.heap.size) (blk_lt' H_I_20.out)).trans H_I_20.out
  clear k_I_20_0 k_I_20_1 k_I_20_2 k_I_20_3 f_I_20 H_I_20
  obtain ⟨k_I_21_0, k_I_21_1, k_I_21_2, k_I_21_3, f_I_21, l_I_21⟩ := bk4 H_I_21
  replace H_I_21 := Lib.hid H_I_21
  have H_K_21 := (hb21.block (w1.heap.size + 1) (blk_lt' H_K_20.out)).trans H_K_20.out
  clear k_K_20_0 k_K_20_1 k_K_20_2 k_K_20_3 f_K_20 H_K_20
  obtain ⟨k_K_21_0, k_K_21_1, k_K_21_2, k_K_21_3, f_K_21, l_K_21⟩ := bk4 H_K_21
  replace H_K_21 := Lib.hid H_K_21
  have H_Ai_21 := (hb21.block (w3.heap.size) (blk_lt' H_Ai_20.out)).trans H_Ai_20.out
  clear k_Ai_20_0 k_Ai_20_1 k_Ai_20_2 k_Ai_20_3 f_Ai_20 H_Ai_20
  obtain ⟨k_Ai_21_0, k_Ai_21_1, k_Ai_21_2, k_Ai_21_3, f_Ai_21, l_Ai_21⟩ := bk4 H_Ai_21
  replace H_Ai_21 := Lib.hid H_Ai_21
  have H_As_21 := (hb21.block (w5.heap.size) (blk_lt' H_As_20.out)).trans H_As_20.out
  clear k_As_20_0 k_As_20_1 k_As_20_2 k_As_20_3 f_As_20 H_As_20
  obtain ⟨k_As_21_0, k_As_21_1, k_As_21_2, k_As_21_3, f_As_21, l_As_21⟩ := bk4 H_As_21
  replace H_As_21 := Lib.hid H_As_21
  have H_Si_21 := (hb21.block (w7.heap.size) (blk_lt' H_Si_20.out)).trans H_Si_20.out
  clear k_Si_20_0 k_Si_20_1 k_Si_20_2 k_Si_20_3 f_Si_20 H_Si_20
  obtain ⟨k_Si_21_0, k_Si_21_1, k_Si_21_2, k_Si_21_3, f_Si_21, l_Si_21⟩ := bk4 H_Si_21
  replace H_Si_21 := Lib.hid H_Si_21
  have H_Ss_21 := (hb21.block (w9.heap.size) (blk_lt' H_Ss_20.out)).trans H_Ss_20.out
  clear k_Ss_20_0 k_Ss_20_1 k_Ss_20_2 k_Ss_20_3 f_Ss_20 H_Ss_20
  obtain ⟨k_Ss_21_0, k_Ss_21_1, k_Ss_21_2, k_Ss_21_3, f_Ss_21, l_Ss_21⟩ := bk4 H_Ss_21
  replace H_Ss_21 := Lib.hid H_Ss_21
  have H_Mi_21 := (hb21.block (w11.heap.size) (blk_lt' H_Mi_20.out)).trans H_Mi_20.out
  clear k_Mi_20_0 k_Mi_20_1 k_Mi_20_2 k_Mi_20_3 f_Mi_20 H_Mi_20
  obtain ⟨k_Mi_21_0, k_Mi_21_1, k_Mi_21_2, k_Mi_21_3, f_Mi_21, l_Mi_21⟩ := bk4 H_Mi_21
  replace H_Mi_21 := Lib.hid H_Mi_21
  have H_Ms_21 := (hb21.block (w13.heap.size) (blk_lt' H_Ms_20.out)).trans H_Ms_20.out
  clear k_Ms_20_0 k_Ms_20_1 k_Ms_20_2 k_Ms_20_3 f_Ms_20 H_Ms_20
  obtain ⟨k_Ms_21_0, k_Ms_21_1, k_Ms_21_2, k_Ms_21_3, f_Ms_21, l_Ms_21⟩ := bk4 H_Ms_21
  replace H_Ms_21 := Lib.hid H_Ms_21
  have H_Di_21 := (hb21.block (w15.heap.size) (blk_lt' H_Di_20.out)).trans H_Di_20.out
  clear k_Di_20_0 k_Di_20_1 k_Di_20_2 k_Di_20_3 f_Di_20 H_Di_20
  obtain ⟨k_Di_21_0, k_Di_21_1, k_Di_21_2, k_Di_21_3, f_Di_21, l_Di_21⟩ := bk4 H_Di_21
  replace H_Di_21 := Lib.hid H_Di_21
  have H_Ds_21 := (hb21.block (w17.heap.size) (blk_lt' H_Ds_20.out)).trans H_Ds_20.out
  clear k_Ds_20_0 k_Ds_20_1 k_Ds_20_2 k_Ds_20_3 f_Ds_20 H_Ds_20
  obtain ⟨k_Ds_21_0, k_Ds_21_1, k_Ds_21_2, k_Ds_21_3, f_Ds_21, l_Ds_21⟩ := bk4 H_Ds_21
  replace H_Ds_21 := Lib.hid H_Ds_21
  have H_Hi_21 := (hb21.block (w19.heap.size) (blk_lt' H_Hi_20.out)).trans H_Hi_20.out
  clear k_Hi_20_0 k_Hi_20_1 k_Hi_20_2 k_Hi_20_3 f_Hi_20 H_Hi_20
  obtain ⟨k_Hi_21_0, k_Hi_21_1, k_Hi_21_2, k_Hi_21_3, f_Hi_21, l_Hi_21⟩ := bk4 H_Hi_21
  replace H_Hi_21 := Lib.hid H_Hi_21
  have hB21 : Below w.heap.size w w21 := below_via hb21 (by assumption) (by first | exact hB20.size | go_size)
  clear hb21 T21
  replace H_I_21 := H_I_21.out
  replace H_K_21 := H_K_21.out
  replace H_Ai_21 := H_Ai_21.out
  replace H_As_21 := H_As_21.out
  replace H_Si_21 := H_Si_21.out
  replace H_Ss_21 := H_Ss_21.out
  replace H_Mi_21 := H_Mi_21.out
  replace H_Ms_21 := H_Ms_21.out
  replace H_Di_21 := H_Di_21.out
  replace H_Ds_21 := H_Ds_21.out
  replace H_Hi_21 := H_Hi_21.out
  refine chk (fun W => Below w.heap.size w W ∧ W.heap[w1.heap.size]? = some (.cells #[.int .i64 n1, .int .i64 d1, .int .i64 n2, .int .i64 d2] 26 (0, 0)) ∧ W.heap[w1.heap.size + 1]? = some (.cells #[.int .i64 n3, .int .i64 d3, .int .i64 n4, .int .i64 d4] 26 (0, 0)) ∧ W.heap[w3.heap.size]? = some (.cells #[.int .i64 A1, .int .i64 A2, .int .i64 A3, .int .i64 A4] 26 (0, 0)) ∧ W.heap[w5.heap.size]? = some (.cells #[.int .i64 A1, .int .i64 A2, .int .i64 A3, .int .i64 A4] 26 (0, 0)) ∧ W.heap[w7.heap.size]? = some (.cells #[.int .i64 S1, .int .i64 S2, .int .i64 S3, .int .i64 S4] 26 (0, 0)) ∧ W.heap[w9.heap.size]? = some (.cells #[.int .i64 S1, .int .i64 S2, .int .i64 S3, .int .i64 S4] 26 (0, 0)) ∧ W.heap[w11.heap.size]? = some (.cells #[.int .i64 M1, .int .i64 M2, .int .i64 M3, .int .i64 M4] 26 (0, 0)) ∧ W.heap[w13.heap.size]? = some (.cells #[.int .i64 M1, .int .i64 M2, .int .i64 M3, .int .i64 M4] 26 (0, 0)) ∧ W.heap[w15.heap.size]? = some (.cells #[.int .i64 D1, .int .i64 D2, .int .i64 D3, .int .i64 D4] 26 (0, 0)) ∧ W.heap[w17.heap.size]? = some (.cells #[.int .i64 D1, .int .i64 D2, .int .i64 D3, .int .i64 D4] 26 (0, 0)) ∧ W.heap[w19.heap.size]? = some (.cells #[.int .i64 H1, .int .i64 H2, .int .i64 H3, .int .i64 H4] 26 (0, 0)) ∧ W.heap[w21.heap.size]? = some (.cells #[.int .i64 H1, .int .i64 H2, .int .i64 H3, .int .i64 H4] 26 (0, 0))) (by refine ⟨?_, ?_, ?_, ?_, ?_, ?_, ?_, ?_, ?_, ?_, ?_, ?_, ?_⟩ <;> (repeat' first | (with_reducible first | assumption | (apply Ne.symm; assumption) | apply Nat.le_refl | apply Nat.le_add_right | apply zL | apply zRf | apply Wx.box | apply Wx.box4 | apply zWa | apply Wx.drew | apply zWn | apply bx_drew | apply bx_drewN | apply bx_set3 | apply bx_set2 | apply bx_set4 | apply bx_set1) | ((with_reducible apply bx_new); (focus (go_size; done))) | (with_reducible first | apply zOl | apply zFa | apply zDn | apply zDr | apply zAl | apply zSt | refine zVi (by assumption) ?_ ?_) | go_size | omega)) ?_
  clear k_I_21_0 k_I_21_1 k_I_21_2 k_I_21_3 f_I_21 H_I_21
  clear k_K_21_0 k_K_21_1 k_K_21_2 k_K_21_3 f_K_21 H_K_21
  clear k_Ai_21_0 k_Ai_21_1 k_Ai_21_2 k_Ai_21_3 f_Ai_21 H_Ai_21
  clear k_As_21_0 k_As_21_1 k_As_21_2 k_As_21_3 f_As_21 H_As_21
  clear k_Si_21_0 k_Si_21_1 k_Si_21_2 k_Si_21_3 f_Si_21 H_Si_21
  clear k_Ss_21_0 k_Ss_21_1 k_Ss_21_2 k_Ss_21_3 f_Ss_21 H_Ss_21
  clear k_Mi_21_0 k_Mi_21_1 k_Mi_21_2 k_Mi_21_3 f_Mi_21 H_Mi_21
  clear k_Ms_21_0 k_Ms_21_1 k_Ms_21_2 k_Ms_21_3 f_Ms_21 H_Ms_21
  clear k_Di_21_0 k_Di_21_1 k_Di_21_2 k_Di_21_3 f_Di_21 H_Di_21
  clear k_Ds_21_0 k_Ds_21_1 k_Ds_21_2 k_Ds_21_3 f_Ds_21 H_Ds_21
  clear k_Hi_21_0 k_Hi_21_1 k_Hi_21_2 k_Hi_21_3 f_Hi_21 H_Hi_21
  clear hB21
  rintro w22 ⟨hB22, H_I_22, H_K_22, H_Ai_22, H_As_22, H_Si_22, H_Ss_22, H_Mi_22, H_Ms_22, H_Di_22, H_Ds_22, H_Hi_22, H_Hs_22⟩
  obtain ⟨k_I_22_0, k_I_22_1, k_I_22_2, k_I_22_3, f_I_22, l_I_22⟩ := bk4 H_I_22
  replace H_I_22 := Lib.hid H_I_22
  obtain ⟨k_K_22_0, k_K_22_1, k_K_22_2, k_K_22_3, f_K_22, l_K_22⟩ := bk4 H_K_22
  replace H_K_22 := Lib.hid H_K_22
  obtain ⟨k_Ai_22_0, k_Ai_22_1, k_Ai_22_2, k_Ai_22_3, f_Ai_22, l_Ai_22⟩ := bk4 H_Ai_22
  replace H_Ai_22 := Lib.hid H_Ai_22
  obtain ⟨k_As_22_0, k_As_22_1, k_As_22_2, k_As_22_3, f_As_22, l_As_22⟩ := bk4 H_As_22
  replace H_As_22 := Lib.hid H_As_22
  obtain ⟨k_Si_22_0, k_Si_22_1, k_Si_22_2, k_Si_22_3, f_Si_22, l_Si_22⟩ := bk4 H_Si_22
  replace H_Si_22 := Lib.hid H_Si_22
  obtain ⟨k_Ss_22_0, k_Ss_22_1, k_Ss_22_2, k_Ss_22_3, f_Ss_22, l_Ss_22⟩ := bk4 H_Ss_22
  replace H_Ss_22 := Lib.hid H_Ss_22
  obtain ⟨k_Mi_22_0, k_Mi_22_1, k_Mi_22_2, k_Mi_22_3, f_Mi_22, l_Mi_22⟩ := bk4 H_Mi_22
  replace H_Mi_22 := Lib.hid H_Mi_22
  obtain ⟨k_Ms_22_0, k_Ms_22_1, k_Ms_22_2, k_Ms_22_3, f_Ms_22, l_Ms_22⟩ := bk4 H_Ms_22
  replace H_Ms_22 := Lib.hid H_Ms_22
  obtain ⟨k_Di_22_0, k_Di_22_1, k_Di_22_2, k_Di_22_3, f_Di_22, l_Di_22⟩ := bk4 H_Di_22
  replace H_Di_22 := Lib.hid H_Di_22
  obtain ⟨k_Ds_22_0, k_Ds_22_1, k_Ds_22_2, k_Ds_22_3, f_Ds_22, l_Ds_22⟩ := bk4 H_Ds_22
  replace H_Ds_22 := Lib.hid H_Ds_22
  obtain ⟨k_Hi_22_0, k_Hi_22_1, k_Hi_22_2, k_Hi_22_3, f_Hi_22, l_Hi_22⟩ := bk4 H_Hi_22
  replace H_Hi_22 := Lib.hid H_Hi_22
  obtain ⟨k_Hs_22_0, k_Hs_22_1, k_Hs_22_2, k_Hs_22_3, f_Hs_22, l_Hs_22⟩ := bk4 H_Hs_22
  replace H_Hs_22 := Lib.hid H_Hs_22
  go_upto_region 15 with (first | (have _t := tok23; go_at_call 15; (with_reducible refine ((T23 _).out).mono ?_); rintro e w23 ⟨rfl, hb23⟩; clear tok23 _t; have hz23 := hb23.size; (try simp only [World.size_alloc, World.size_setCell, World.size_drew, World.size_drewN'] at hz23)))
  have H_I_23 := (hb23.block (w1.heap.size) (blk_lt' H_I_22.out)).trans H_I_22.out
  clear k_I_22_0 k_I_22_1 k_I_22_2 k_I_22_3 f_I_22 H_I_22
  obtain ⟨k_I_23_0, k_I_23_1, k_I_23_2, k_I_23_3, f_I_23, l_I_23⟩ := bk4 H_I_23
  replace H_I_23 := Lib.hid H_I_23
  have H_K_23 := (hb23.block (w1.heap.size + 1) (blk_lt' H_K_22.out)).trans H_K_22.out
  clear k_K_22_0 k_K_22_1 k_K_22_2 k_K_22_3 f_K_22 H_K_22
  obtain ⟨k_K_23_0, k_K_23_1, k_K_23_2, k_K_23_3, f_K_23, l_K_23⟩ := bk4 H_K_23
  replace H_K_23 := Lib.hid H_K_23
  have H_Ai_23 := (hb23.block (w3.heap.size) (blk_lt' H_Ai_22.out)).trans H_Ai_22.out
  clear k_Ai_22_0 k_Ai_22_1 k_Ai_22_2 k_Ai_22_3 f_Ai_22 H_Ai_22
  obtain ⟨k_Ai_23_0, k_Ai_23_1, k_Ai_23_2, k_Ai_23_3, f_Ai_23, l_Ai_23⟩ := bk4 H_Ai_23
  replace H_Ai_23 := Lib.hid H_Ai_23
  have H_As_23 := (hb23.block (w5.heap.size) (blk_lt' H_As_22.out)).trans H_As_22.out
  clear k_As_22_0 k_As_22_1 k_As_22_2 k_As_22_3 f_As_22 H_As_22
  obtain ⟨k_As_23_0, k_As_23_1, k_As_23_2, k_As_23_3, f_As_23, l_As_23⟩ := bk4 H_As_23
  replace H_As_23 := Lib.hid H_As_23
  have H_Si_23 := (hb23.block (w7.heap.size) (blk_lt' H_Si_22.out)).trans H_Si_22.out
  clear k_Si_22_0 k_Si_22_1 k_Si_22_2 k_Si_22_3 f_Si_22 H_Si_22
  obtain ⟨k_Si_23_0, k_Si_23_1, k_Si_23_2, k_Si_23_3, f_Si_23, l_Si_23⟩ := bk4 H_Si_23
  replace H_Si_23 := Lib.hid H_Si_23
  have H_Ss_23 := (hb23.block (w9.heap.size) (blk_lt' H_Ss_22.out)).trans H_Ss_22.out
  clear k_Ss_22_0 k_Ss_22_1 k_Ss_22_2 k_Ss_22_3 f_Ss_22 H_Ss_22
  obtain ⟨k_Ss_23_0, k_Ss_23_1, k_Ss_23_2, k_Ss_23_3, f_Ss_23, l_Ss_23⟩ := bk4 H_Ss_23
  replace H_Ss_23 := Lib.hid H_Ss_23
  have H_Mi_23 := (hb23.block (w11.heap.size) (blk_lt' H_Mi_22.out)).trans H_Mi_22.out
  clear k_Mi_22_0 k_Mi_22_1 k_Mi_22_2 k_Mi_22_3 f_Mi_22 H_Mi_22
  obtain ⟨k_Mi_23_0, k_Mi_23_1, k_Mi_23_2, k_Mi_23_3, f_Mi_23, l_Mi_23⟩ := bk4 H_Mi_23
  replace H_Mi_23 := Lib.hid H_Mi_23
  have H_Ms_23 := (hb23.block (w13.heap.size) (blk_lt' H_Ms_22.out)).trans H_Ms_22.out
  clear k_Ms_22_0 k_Ms_22_1 k_Ms_22_2 k_Ms_22_3 f_Ms_22 H_Ms_22
  obtain ⟨k_Ms_23_0, k_Ms_23_1, k_Ms_23_2, k_Ms_23_3, f_Ms_23, l_Ms_23⟩ := bk4 H_Ms_23
  replace H_Ms_23 := Lib.hid H_Ms_23
  have H_Di_23 := (hb23.block (w15.heap.size) (blk_lt' H_Di_22.out)).trans H_Di_22.out
  clear k_Di_22_0 k_Di_22_1 k_Di_22_2 k_Di_22_3 f_Di_22 H_Di_22
  obtain ⟨k_Di_23_0, k_Di_23_1, k_Di_23_2, k_Di_23_3, f_Di_23, l_Di_23⟩ := bk4 H_Di_23
  replace H_Di_23 := Lib.hid H_Di_23
  have H_Ds_23 := (hb23.block (w17.heap.size) (blk_lt' H_Ds_22.out)).trans H_Ds_22.out
  clear k_Ds_22_0 k_Ds_22_1 k_Ds_22_2 k_Ds_22_3 f_Ds_22 H_Ds_22
  obtain ⟨k_Ds_23_0, k_Ds_23_1, k_Ds_23_2, k_Ds_23_3, f_Ds_23, l_Ds_23⟩ := bk4 H_Ds_23
  replace H_Ds_23 := Lib.hid H_Ds_23
  have H_Hi_23 := (hb23.block (w19.heap.size) (blk_lt' H_Hi_22.out)).trans H_Hi_22.out
  clear k_Hi_22_0 k_Hi_22_1 k_Hi_22_2 k_Hi_22_3 f_Hi_22 H_Hi_22
  obtain ⟨k_Hi_23_0, k_Hi_23_1, k_Hi_23_2, k_Hi_23_3, f_Hi_23, l_Hi_23⟩ := bk4 H_Hi_23
  replace H_Hi_23 := Lib.hid H_Hi_23
  have H_Hs_23 := (hb23.block (w21.heap.size) (blk_lt' H_Hs_22.out)).trans H_Hs_22.out
  clear k_Hs_22_0 k_Hs_22_1 k_Hs_22_2 k_Hs_22_3 f_Hs_22 H_Hs_22
  obtain ⟨k_Hs_23_0, k_Hs_23_1, k_Hs_23_2, k_Hs_23_3, f_Hs_23, l_Hs_23⟩ := bk4 H_Hs_23
  replace H_Hs_23 := Lib.hid H_Hs_23
  have hB23 : Below w.heap.size w w23 := below_via hb23 (by assumption) (by first | exact hB22.size | go_size)
  clear hb23 T23
  replace H_I_23 := H_I_23.out
  replace H_K_23 := H_K_23.out
  replace H_Ai_23 := H_Ai_23.out
  replace H_As_23 := H_As_23.out
  replace H_Si_23 := H_Si_23.out
  replace H_Ss_23 := H_Ss_23.out
  replace H_Mi_23 := H_Mi_23.out
  replace H_Ms_23 := H_Ms_23.out
  replace H_Di_23 := H_Di_23.out
  replace H_Ds_23 := H_Ds_23.out
  replace H_Hi_23 := H_Hi_23.out
  replace H_Hs_23 := H_Hs_23.out
  refine chk (fun W => Below w.heap.size w W ∧ W.heap[w1.heap.size]? = some (.cells #[.int .i64 n1, .int .i64 d1, .int .i64 n2, .int .i64 d2] 26 (0, 0)) ∧ W.heap[w1.heap.size + 1]? = some (.cells #[.int .i64 n3, .int .i64 d3, .int .i64 n4, .int .i64 d4] 26 (0, 0)) ∧ W.heap[w3.heap.size]? = some (.cells #[.int .i64 A1, .int .i64 A2, .int .i64 A3, .int .i64 A4] 26 (0, 0)) ∧ W.heap[w5.heap.size]? = some (.cells #[.int .i64 A1, .int .i64 A2, .int .i64 A3, .int .i64 A4] 26 (0, 0)) ∧ W.heap[w7.heap.size]? = some (.cells #[.int .i64 S1, .int .i64 S2, .int .i64 S3, .int .i64 S4] 26 (0, 0)) ∧ W.heap[w9.heap.size]? = some (.cells #[.int .i64 S1, .int .i64 S2, .int .i64 S3, .int .i64 S4] 26 (0, 0)) ∧ W.heap[w11.heap.size]? = some (.cells #[.int .i64 M1, .int .i64 M2, .int .i64 M3, .int .i64 M4] 26 (0, 0)) ∧ W.heap[w13.heap.size]? = some (.cells #[.int .i64 M1, .int .i64 M2, .int .i64 M3, .int .i64 M4] 26 (0, 0)) ∧ W.heap[w15.heap.size]? = some (.cells #[.int .i64 D1, .int .i64 D2, .int .i64 D3, .int .i64 D4] 26 (0, 0)) ∧ W.heap[w17.heap.size]? = some (.cells #[.int .i64 D1, .int .i64 D2, .int .i64 D3, .int .i64 D4] 26 (0, 0)) ∧ W.heap[w19.heap.size]? = some (.cells #[.int .i64 H1, .int .i64 H2, .int .i64 H3, .int .i64 H4] 26 (0, 0)) ∧ W.heap[w21.heap.size]? = some (.cells #[.int .i64 H1, .int .i64 H2, .int .i64 H3, .int .i64 H4] 26 (0, 0)) ∧ W.heap[w23.heap.size]? = some (.cells #[.int .i64 C1, .int .i64 C2, .int .i64 C3, .int .i64 C4] 26 (0, 0))) (by refine ⟨?_, ?_, ?_, ?_, ?_, ?_, ?_, ?_, ?_, ?_, ?_, ?_, ?_, ?_⟩ <;> (repeat' first | (with_reducible first | assumption | (apply Ne.symm; assumption) | apply Nat.le_refl | apply Nat.le_add_right | apply zL | apply zRf | apply Wx.box | apply Wx.box4 | apply zWa | apply Wx.drew | apply zWn | apply bx_drew | apply bx_drewN | apply bx_set3 | apply bx_set2 | apply bx_set4 | apply bx_set1) | ((with_reducible apply bx_new); (focus (go_size; done))) | (with_reducible first | apply zOl | apply zFa | apply zDn | apply zDr | apply zAl | apply zSt | refine zVi (by assumption) ?_ ?_) | go_size | omega)) ?_
  clear k_I_23_0 k_I_23_1 k_I_23_2 k_I_23_3 f_I_23 H_I_23
  clear k_K_23_0 k_K_23_1 k_K_23_2 k_K_23_3 f_K_23 H_K_23
  clear k_Ai_23_0 k_Ai_23_1 k_Ai_23_2 k_Ai_23_3 f_Ai_23 H_Ai_23
  clear k_As_23_0 k_As_23_1 k_As_23_2 k_As_23_3 f_As_23 H_As_23
  clear k_Si_23_0 k_Si_23_1 k_Si_23_2 k_Si_23_3 f_Si_23 H_Si_23
  clear k_Ss_23_0 k_Ss_23_1 k_Ss_23_2 k_Ss_23_3 f_Ss_23 H_Ss_23
  clear k_Mi_23_0 k_Mi_23_1 k_Mi_23_2 k_Mi_23_3 f_Mi_23 H_Mi_23
  clear k_Ms_23_0 k_Ms_23_1 k_Ms_23_2 k_Ms_23_3 f_Ms_23 H_Ms_23
  clear k_Di_23_0 k_Di_23_1 k_Di_23_2 k_Di_23_3 f_Di_23 H_Di_23
  clear k_Ds_23_0 k_Ds_23_1 k_Ds_23_2 k_Ds_23_3 f_Ds_23 H_Ds_23
  clear k_Hi_23_0 k_Hi_23_1 k_Hi_23_2 k_Hi_23_3 f_Hi_23 H_Hi_23
  clear k_Hs_23_0 k_Hs_23_1 k_Hs_23_2 k_Hs_23_3 f_Hs_23 H_Hs_23
  clear hB23
  rintro w24 ⟨hB24, H_I_24, H_K_24, H_Ai_24, H_As_24, H_Si_24, H_Ss_24, H_Mi_24, H_Ms_24, H_Di_24, H_Ds_24, H_Hi_24, H_Hs_24, H_Ci_24⟩
  obtain ⟨k_I_24_0, k_I_24_1, k_I_24_2, k_I_24_3, f_I_24, l_I_24⟩ := bk4 H_I_24
  replace H_I_24 := Lib.hid H_I_24
  obtain ⟨k_K_24_0, k_K_24_1, k_K_24_2, k_K_24_3, f_K_24, l_K_24⟩ := bk4 H_K_24
  replace H_K_24 := Lib.hid H_K_24
  obtain ⟨k_Ai_24_0, k_Ai_24_1, k_Ai_24_2, k_Ai_24_3, f_Ai_24, l_Ai_24⟩ := bk4 H_Ai_24
  replace H_Ai_24 := Lib.hid H_Ai_24
  obtain ⟨k_As_24_0, k_As_24_1, k_As_24_2, k_As_24_3, f_As_24, l_As_24⟩ := bk4 H_As_24
  replace H_As_24 := Lib.hid H_As_24
  obtain ⟨k_Si_24_0, k_Si_24_1, k_Si_24_2, k_Si_24_3, f_Si_24, l_Si_24⟩ := bk4 H_Si_24
  replace H_Si_24 := Lib.hid H_Si_24
  obtain ⟨k_Ss_24_0, k_Ss_24_1, k_Ss_24_2, k_Ss_24_3, f_Ss_24, l_Ss_24⟩ := bk4 H_Ss_24
  replace H_Ss_24 := Lib.hid H_Ss_24
  obtain ⟨k_Mi_24_0, k_Mi_24_1, k_Mi_24_2, k_Mi_24_3, f_Mi_24, l_Mi_24⟩ := bk4 H_Mi_24
  replace H_Mi_24 := Lib.hid H_Mi_24
  obtain ⟨k_Ms_24_0, k_Ms_24_1, k_Ms_24_2, k_Ms_24_3, f_Ms_24, l_Ms_24⟩ := bk4 H_Ms_24
  replace H_Ms_24 := Lib.hid H_Ms_24
  obtain ⟨k_Di_24_0, k_Di_24_1, k_Di_24_2, k_Di_24_3, f_Di_24, l_Di_24⟩ := bk4 H_Di_24
  replace H_Di_24 := Lib.hid H_Di_24
  obtain ⟨k_Ds_24_0, k_Ds_24_1, k_Ds_24_2, k_Ds_24_3, f_Ds_24, l_Ds_24⟩ := bk4 H_Ds_24
  replace H_Ds_24 := Lib.hid H_Ds_24
  obtain ⟨k_Hi_24_0, k_Hi_24_1, k_Hi_24_2, k_Hi_24_3, f_Hi_24, l_Hi_24⟩ := bk4 H_Hi_24
  replace H_Hi_24 := Lib.hid H_Hi_24
  obtain ⟨k_Hs_24_0, k_Hs_24_1, k_Hs_24_2, k_Hs_24_3, f_Hs_24, l_Hs_24⟩ := bk4 H_Hs_24
  replace H_Hs_24 := Lib.hid H_Hs_24
  obtain ⟨k_Ci_24_0, k_Ci_24_1, k_Ci_24_2, k_Ci_24_3, f_Ci_24, l_Ci_24⟩ := bk4 H_Ci_24
  replace H_Ci_24 := Lib.hid H_Ci_24
  go_upto_region 16 with (first | (have _t := tok25; go_at_call 16; (with_reducible refine ((T25 _).out).mono ?_); rintro e w25 ⟨rfl, hb25⟩; clear tok25 _t; have hz25 := hb25.size; (try simp only [World.size_alloc, World.size_setCell, World.size_drew, World.size_drewN'] at hz25)))
  have H_I_25 := (hb25.block (w1.heap.size) (blk_lt' H_I_24.out)).trans H_I_24.out
  clear k_I_24_0 k_I_24_1 k_I_24_2 k_I_24_3 f_I_24 H_I_24
  obtain ⟨k_I_25_0, k_I_25_1, k_I_25_2, k_I_25_3, f_I_25, l_I_25⟩ := bk4 H_I_25
  replace H_I_25 := Lib.hid H_I_25
  have H_K_25 := (hb25.block (w1.heap.size + 1) (blk_lt' H_K_24.out)).trans H_K_24.out
  clear k_K_24_0 k_K_24_1 k_K_24_2 k_K_24_3 f_K_24 H_K_24
  obtain ⟨k_K_25_0, k_K_25_1, k_K_25_2, k_K_25_3, f_K_25, l_K_25⟩ := bk4 H_K_25
  replace H_K_25 := Lib.hid H_K_25
  have H_Ai_25 := (hb25.block (w3.heap.size) (blk_lt' H_Ai_24.out)).trans H_Ai_24.out
  clear k_Ai_24_0 k_Ai_24_1 k_Ai_24_2 k_Ai_24_3 f_Ai_24 H_Ai_24
  obtain ⟨k_Ai_25_0, k_Ai_25_1, k_Ai_25_2, k_Ai_25_3, f_Ai_25, l_Ai_25⟩ := bk4 H_Ai_25
  replace H_Ai_25 := Lib.hid H_Ai_25
  have H_As_25 := (hb25.block (w5.heap.size) (blk_lt' H_As_24.out)).trans H_As_24.out
  clear k_As_24_0 k_As_24_1 k_As_24_2 k_As_24_3 f_As_24 H_As_24
  obtain ⟨k_As_25_0, k_As_25_1, k_As_25_2, k_As_25_3, f_As_25, l_As_25⟩ := bk4 H_As_25
  replace H_As_25 := Lib.hid H_As_25
  have H_Si_25 := (hb25.block (w7.heap.size) (blk_lt' H_Si_24.out)).trans H_Si_24.out
  clear k_Si_24_0 k_Si_24_1 k_Si_24_2 k_Si_24_3 f_Si_24 H_Si_24
  obtain ⟨k_Si_25_0, k_Si_25_1, k_Si_25_2, k_Si_25_3, f_Si_25, l_Si_25⟩ := bk4 H_Si_25
  replace H_Si_25 := Lib.hid H_Si_25
  have H_Ss_25 := (hb25.block (w9.heap.size) (blk_lt' H_Ss_24.out)).trans H_Ss_24.out
  clear k_Ss_24_0 k_Ss_24_1 k_Ss_24_2 k_Ss_24_3 f_Ss_24 H_Ss_24
  obtain ⟨k_Ss_25_0, k_Ss_25_1, k_Ss_25_2, k_Ss_25_3, f_Ss_25, l_Ss_25⟩ := bk4 H_Ss_25
  replace H_Ss_25 := Lib.hid H_Ss_25
  have H_Mi_25 := (hb25.block (w11.heap.size) (blk_lt' H_Mi_24.out)).trans H_Mi_24.out
  clear k_Mi_24_0 k_Mi_24_1 k_Mi_24_2 k_Mi_24_3 f_Mi_24 H_Mi_24
  obtain ⟨k_Mi_25_0, k_Mi_25_1, k_Mi_25_2, k_Mi_25_3, f_Mi_25, l_Mi_25⟩ := bk4 H_Mi_25
  replace H_Mi_25 := Lib.hid H_Mi_25
  have H_Ms_25 := (hb25.block (w13.heap.size) (blk_lt' H_Ms_24.out)).trans H_Ms_24.out
  clear k_Ms_24_0 k_Ms_24_1 k_Ms_24_2 k_Ms_24_3 f_Ms_24 H_Ms_24
  obtain ⟨k_Ms_25_0, k_Ms_25_1, k_Ms_25_2, k_Ms_25_3, f_Ms_25, l_Ms_25⟩ := bk4 H_Ms_25
  replace H_Ms_25 := Lib.hid H_Ms_25
  have H_Di_25 := (hb25.block (w15.heap.size) (blk_lt' H_Di_24.out)).trans H_Di_24.out
  clear k_Di_24_0 k_Di_24_1 k_Di_24_2 k_Di_24_3 f_Di_24 H_Di_24
  obtain ⟨k_Di_25_0, k_Di_25_1, k_Di_25_2, k_Di_25_3, f_Di_25, l_Di_25⟩ := bk4 H_Di_25
  replace H_Di_25 := Lib.hid H_Di_25
  have H_Ds_25 := (hb25.block (w17.heap.size) (blk_lt' H_Ds_24.out)).trans H_Ds_24.out
  clear k_Ds_24_0 k_Ds_24_1 k_Ds_24_2 k_Ds_24_3 f_Ds_24 H_Ds_24
  obtain ⟨k_Ds_25_0, k_Ds_25_1, k_Ds_25_2, k_Ds_25_3, f_Ds_25, l_Ds_25⟩ := bk4 H_Ds_25
  replace H_Ds_25 := Lib.hid H_Ds_25
  have H_Hi_25 := (hb25.block (w19.heap.size) (blk_lt' H_Hi_24.out)).trans H_Hi_24.out
  clear k_Hi_24_0 k_Hi_24_1 k_Hi_24_2 k_Hi_24_3 f_Hi_24 H_Hi_24
  obtain ⟨k_Hi_25_0, k_Hi_25_1, k_Hi_25_2, k_Hi_25_3, f_Hi_25, l_Hi_25⟩ := bk4 H_Hi_25
  replace H_Hi_25 := Lib.hid H_Hi_25
  have H_Hs_25 := (hb25.block (w21.heap.size) (blk_lt' H_Hs_24.out)).trans H_Hs_24.out
  clear k_Hs_24_0 k_Hs_24_1 k_Hs_24_2 k_Hs_24_3 f_Hs_24 H_Hs_24
  obtain ⟨k_Hs_25_0, k_Hs_25_1, k_Hs_25_2, k_Hs_25_3, f_Hs_25, l_Hs_25⟩ := bk4 H_Hs_25
  replace H_Hs_25 := Lib.hid H_Hs_25
  have H_Ci_25 := (hb25.block (w23.heap.size) (blk_lt' H_Ci_24.out)).trans H_Ci_24.out
  clear k_Ci_24_0 k_Ci_24_1 k_Ci_24_2 k_Ci_24_3 f_Ci_24 H_Ci_24
  obtain ⟨k_Ci_25_0, k_Ci_25_1, k_Ci_25_2, k_Ci_25_3, f_Ci_25, l_Ci_25⟩ := bk4 H_Ci_25
  replace H_Ci_25 := Lib.hid H_Ci_25
  have hB25 : Below w.heap.size w w25 := below_via hb25 (by assumption) (by first | exact hB24.size | go_size)
  clear hb25 T25
  replace H_I_25 := H_I_25.out
  replace H_K_25 := H_K_25.out
  replace H_Ai_25 := H_Ai_25.out
  replace H_As_25 := H_As_25.out
  replace H_Si_25 := H_Si_25.out
  replace H_Ss_25 := H_Ss_25.out
  replace H_Mi_25 := H_Mi_25.out
  replace H_Ms_25 := H_Ms_25.out
  replace H_Di_25 := H_Di_25.out
  replace H_Ds_25 := H_Ds_25.out
  replace H_Hi_25 := H_Hi_25.out
  replace H_Hs_25 := H_Hs_25.out
  replace H_Ci_25 := H_Ci_25.out
  refine chk (fun W => Below w.heap.size w W ∧ W.heap[w1.heap.size]? = some (.cells #[.int .i64 n1, .int .i64 d1, .int .i64 n2, .int .i64 d2] 26 (0, 0)) ∧ W.heap[w1.heap.size + 1]? = some (.cells #[.int .i64 n3, .int .i64 d3, .int .i64 n4, .int .i64 d4] 26 (0, 0)) ∧ W.heap[w3.heap.size]? = some (.cells #[.int .i64 A1, .int .i64 A2, .int .i64 A3, .int .i64 A4] 26 (0, 0)) ∧ W.heap[w5.heap.size]? = some (.cells #[.int .i64 A1, .int .i64 A2, .int .i64 A3, .int .i64 A4] 26 (0, 0)) ∧ W.heap[w7.heap.size]? = some (.cells #[.int .i64 S1, .int .i64 S2, .int .i64 S3, .int .i64 S4] 26 (0, 0)) ∧ W.heap[w9.heap.size]? = some (.cells #[.int .i64 S1, .int .i64 S2, .int .i64 S3, .int .i64 S4] 26 (0, 0)) ∧ W.heap[w11.heap.size]? = some (.cells #[.int .i64 M1, .int .i64 M2, .int .i64 M3, .int .i64 M4] 26 (0, 0)) ∧ W.heap[w13.heap.size]? = some (.cells #[.int .i64 M1, .int .i64 M2, .int .i64 M3, .int .i64 M4] 26 (0, 0)) ∧ W.heap[w15.heap.size]? = some (.cells #[.int .i64 D1, .int .i64 D2, .int .i64 D3, .int .i64 D4] 26 (0, 0)) ∧ W.heap[w17.heap.size]? = some (.cells #[.int .i64 D1, .int .i64 D2, .int .i64 D3, .int .i64 D4] 26 (0, 0)) ∧ W.heap[w19.heap.size]? = some (.cells #[.int .i64 H1, .int .i64 H2, .int .i64 H3, .int .i64 H4] 26 (0, 0)) ∧ W.heap[w21.heap.size]? = some (.cells #[.int .i64 H1, .int .i64 H2, .int .i64 H3, .int .i64 H4] 26 (0, 0)) ∧ W.heap[w23.heap.size]? = some (.cells #[.int .i64 C1, .int .i64 C2, .int .i64 C3, .int .i64 C4] 26 (0, 0)) ∧ W.heap[w25.heap.size]? = some (.cells #[.int .i64 C1, .int .i64 C2, .int .i64 C3, .int .i64 C4] 26 (0, 0))) (by refine ⟨?_, ?_, ?_, ?_, ?_, ?_, ?_, ?_, ?_, ?_, ?_, ?_, ?_, ?_, ?_⟩ <;> (repeat' first | (with_reducible first | assumption | (apply Ne.symm; assumption) | apply Nat.le_refl | apply Nat.le_add_right | apply zL | apply zRf | apply Wx.box | apply Wx.box4 | apply zWa | apply Wx.drew | apply zWn | apply bx_drew | apply bx_drewN | apply bx_set3 | apply bx_set2 | apply bx_set4 | apply bx_set1) | ((with_reducible apply bx_new); (focus (go_size; done))) | (with_reducible first | apply zOl | apply zFa | apply zDn | apply zDr | apply zAl | apply zSt | refine zVi (by assumption) ?_ ?_) | go_size | omega)) ?_
  clear k_I_25_0 k_I_25_1 k_I_25_2 k_I_25_3 f_I_25 H_I_25
  clear k_K_25_0 k_K_25_1 k_K_25_2 k_K_25_3 f_K_25 H_K_25
  clear k_Ai_25_0 k_Ai_25_1 k_Ai_25_2 k_Ai_25_3 f_Ai_25 H_Ai_25
  clear k_As_25_0 k_As_25_1 k_As_25_2 k_As_25_3 f_As_25 H_As_25
  clear k_Si_25_0 k_Si_25_1 k_Si_25_2 k_Si_25_3 f_Si_25 H_Si_25
  clear k_Ss_25_0 k_Ss_25_1 k_Ss_25_2 k_Ss_25_3 f_Ss_25 H_Ss_25
  clear k_Mi_25_0 k_Mi_25_1 k_Mi_25_2 k_Mi_25_3 f_Mi_25 H_Mi_25
  clear k_Ms_25_0 k_Ms_25_1 k_Ms_25_2 k_Ms_25_3 f_Ms_25 H_Ms_25
  clear k_Di_25_0 k_Di_25_1 k_Di_25_2 k_Di_25_3 f_Di_25 H_Di_25
  clear k_Ds_25_0 k_Ds_25_1 k_Ds_25_2 k_Ds_25_3 f_Ds_25 H_Ds_25
  clear k_Hi_25_0 k_Hi_25_1 k_Hi_25_2 k_Hi_25_3 f_Hi_25 H_Hi_25
  clear k_Hs_25_0 k_Hs_25_1 k_Hs_25_2 k_Hs_25_3 f_Hs_25 H_Hs_25
  clear k_Ci_25_0 k_Ci_25_1 k_Ci_25_2 k_Ci_25_3 f_Ci_25 H_Ci_25
  clear hB25
  rintro w26 ⟨hB26, H_I_26, H_K_26, H_Ai_26, H_As_26, H_Si_26, H_Ss_26, H_Mi_26, H_Ms_26, H_Di_26, H_Ds_26, H_Hi_26, H_Hs_26, H_Ci_26, H_Cs_26⟩
  obtain ⟨k_I_26_0, k_I_26_1, k_I_26_2, k_I_26_3, f_I_26, l_I_26⟩ := bk4 H_I_26
  replace H_I_26 := Lib.hid H_I_26
  obtain ⟨k_K_26_0, k_K_26_1, k_K_26_2, k_K_26_3, f_K_26, l_K_26⟩ := bk4 H_K_26
  replace H_K_26 := Lib.hid H_K_26
  obtain ⟨k_Ai_26_0, k_Ai_26_1, k_Ai_26_2, k_Ai_26_3, f_Ai_26, l_Ai_26⟩ := bk4 H_Ai_26
  replace H_Ai_26 := Lib.hid H_Ai_26
  obtain ⟨k_As_26_0, k_As_26_1, k_As_26_2, k_As_26_3, f_As_26, l_As_26⟩ := bk4 H_As_26
  replace H_As_26 := Lib.hid H_As_26
  obtain ⟨k_Si_26_0, k_Si_26_1, k_Si_26_2, k_Si_26_3, f_Si_26, l_Si_26⟩ := bk4 H_Si_26
  replace H_Si_26 := Lib.hid H_Si_26
  obtain ⟨k_Ss_26_0, k_Ss_26_1, k_Ss_26_2, k_Ss_26_3, f_Ss_26, l_Ss_26⟩ := bk4 H_Ss_26
  replace H_Ss_26 := Lib.hid H_Ss_26
  obtain ⟨k_Mi_26_0, k_Mi_26_1, k_Mi_26_2, k_Mi_26_3, f_Mi_26, l_Mi_26⟩ := bk4 H_Mi_26
  replace H_Mi_26 := Lib.hid H_Mi_26
  obtain ⟨k_Ms_26_0, k_Ms_26_1, k_Ms_26_2, k_Ms_26_3, f_Ms_26, l_Ms_26⟩ := bk4 H_Ms_26
  replace H_Ms_26 := Lib.hid H_Ms_26
  obtain ⟨k_Di_26_0, k_Di_26_1, k_Di_26_2, k_Di_26_3, f_Di_26, l_Di_26⟩ := bk4 H_Di_26
  replace H_Di_26 := Lib.hid H_Di_26
  obtain ⟨k_Ds_26_0, k_Ds_26_1, k_Ds_26_2, k_Ds_26_3, f_Ds_26, l_Ds_26⟩ := bk4 H_Ds_26
  replace H_Ds_26 := Lib.hid H_Ds_26
  obtain ⟨k_Hi_26_0, k_Hi_26_1, k_Hi_26_2, k_Hi_26_3, f_Hi_26, l_Hi_26⟩ := bk4 H_Hi_26
  replace H_Hi_26 := Lib.hid H_Hi_26
  obtain ⟨k_Hs_26_0, k_Hs_26_1, k_Hs_26_2, k_Hs_26_3, f_Hs_26, l_Hs_26⟩ := bk4 H_Hs_26
  replace H_Hs_26 := Lib.hid H_Hs_26
  obtain ⟨k_Ci_26_0, k_Ci_26_1, k_Ci_26_2, k_Ci_26_3, f_Ci_26, l_Ci_26⟩ := bk4 H_Ci_26
  replace H_Ci_26 := Lib.hid H_Ci_26
  obtain ⟨k_Cs_26_0, k_Cs_26_1, k_Cs_26_2, k_Cs_26_3, f_Cs_26, l_Cs_26⟩ := bk4 H_Cs_26
  replace H_Cs_26 := Lib.hid H_Cs_26
  have EA := fun W => neqIv_same A1 A2 A3 A4 W
  have ES := fun W => neqIv_same S1 S2 S3 S4 W
  have EM := fun W => neqIv_same M1 M2 M3 M4 W
  have ED := fun W => neqIv_same D1 D2 D3 D4 W
  have EH := fun W => neqIv_same H1 H2 H3 H4 W
  have EC := fun W => neqIv_same C1 C2 C3 C4 W
  have e1 : (oa != oa) = false := by simp
  have e2 : (os != os) = false := by simp
  have e3 : (om != om) = false := by simp
  have e4 : (od != od) = false := by simp
  have e5 : (oh != oh) = false := by simp
  have e6 : (oc != oc) = false := by simp
  go_cut [193] (fun s193 wx => s193 = .bool false ∧ Below w26.heap.size w26 wx)
  case first =>
    as_aux_lemma =>
      have hi := Fi.out
      clear TX TY RX RY Fs Fm Fd Fh Fc Fb Fi
      cases oa
      · go_wp2_with (first | (have _t := tok27; go_at_call 17; (with_reducible refine ((TI _).out).mono ?_); rintro e w27 ⟨rfl, hb27⟩; clear tok27 _t; have hz27 := hb27.size; (try simp only [World.size_alloc, World.size_setCell, World.size_drew, World.size_drewN'] at hz27)))
        go_meet
        exact ⟨rfl, by repeat' first | (with_reducible first | apply zRf | assumption | apply zDn | apply zDr | apply zAl | apply zSt | refine zVi (by assumption) ?_ ?_) | go_size⟩
      · rw [hi rfl] at TI
        clear hi
        go_wp2_with (first | (have _t := tok27; go_at_call 17; (with_reducible refine ((TI _).out).mono ?_); rintro e w27 ⟨rfl, hb27⟩; clear tok27 _t; have hz27 := hb27.size; (try simp only [World.size_alloc, World.size_setCell, World.size_drew, World.size_drewN'] at hz27)))
        go_meet
        exact ⟨rfl, by repeat' first | (with_reducible first | apply zRf | assumption | apply zDn | apply zDr | apply zAl | apply zSt | refine zVi (by assumption) ?_ ?_) | go_size⟩
  case rest =>
    obtain ⟨rfl, hb28⟩ := hcut
    generalize wc = w28 at *
    clear EA ES EM ED EH EC e1 e2 e3 e4 e5 e6 TI Fi TX TY
    clear k_Ai_26_0
    clear k_Ai_26_1
    clear k_Ai_26_2
    clear k_Ai_26_3
    clear f_Ai_26 H_Ai_26
    clear k_Ss_26_0
    clear k_Ss_26_1
    clear k_Ss_26_2
    clear k_Ss_26_3
    clear f_Ss_26 H_Ss_26
    clear k_Mi_26_0
    clear k_Mi_26_1
    clear k_Mi_26_2
    clear k_Mi_26_3
    clear f_Mi_26 H_Mi_26
    clear k_Di_26_0
    clear k_Di_26_1
    clear k_Di_26_2
    clear k_Di_26_3
    clear f_Di_26 H_Di_26
    clear k_Hi_26_0
    clear k_Hi_26_1
    clear k_Hi_26_2
    clear k_Hi_26_3
    clear f_Hi_26 H_Hi_26
    clear k_Ci_26_0
    clear k_Ci_26_1
    clear k_Ci_26_2
    clear k_Ci_26_3
    clear f_Ci_26 H_Ci_26
    have H_I_28 := (hb28.block (w1.heap.size) (blk_lt' H_I_26.out)).trans H_I_26.out
    clear k_I_26_0 k_I_26_1 k_I_26_2 k_I_26_3 f_I_26 H_I_26
    obtain ⟨k_I_28_0, k_I_28_1, k_I_28_2, k_I_28_3, f_I_28, l_I_28⟩ := bk4 H_I_28
    replace H_I_28 := Lib.hid H_I_28
    have H_K_28 := (hb28.block (w1.heap.size + 1) (blk_lt' H_K_26.out)).trans H_K_26.out
    clear k_K_26_0 k_K_26_1 k_K_26_2 k_K_26_3 f_K_26 H_K_26
    obtain ⟨k_K_28_0, k_K_28_1, k_K_28_2, k_K_28_3, f_K_28, l_K_28⟩ := bk4 H_K_28
    replace H_K_28 := Lib.hid H_K_28
    have H_As_28 := (hb28.block (w5.heap.size) (blk_lt' H_As_26.out)).trans H_As_26.out
    clear k_As_26_0 k_As_26_1 k_As_26_2 k_As_26_3 f_As_26 H_As_26
    obtain ⟨k_As_28_0, k_As_28_1, k_As_28_2, k_As_28_3, f_As_28, l_As_28⟩ := bk4 H_As_28
    replace H_As_28 := Lib.hid H_As_28
    have H_Si_28 := (hb28.block (w7.heap.size) (blk_lt' H_Si_26.out)).trans H_Si_26.out
    clear k_Si_26_0 k_Si_26_1 k_Si_26_2 k_Si_26_3 f_Si_26 H_Si_26
    obtain ⟨k_Si_28_0, k_Si_28_1, k_Si_28_2, k_Si_28_3, f_Si_28, l_Si_28⟩ := bk4 H_Si_28
    replace H_Si_28 := Lib.hid H_Si_28
    have H_Ms_28 := (hb28.block (w13.heap.size) (blk_lt' H_Ms_26.out)).trans H_Ms_26.out
    clear k_Ms_26_0 k_Ms_26_1 k_Ms_26_2 k_Ms_26_3 f_Ms_26 H_Ms_26
    obtain ⟨k_Ms_28_0, k_Ms_28_1, k_Ms_28_2, k_Ms_28_3, f_Ms_28, l_Ms_28⟩ := bk4 H_Ms_28
    replace H_Ms_28 := Lib.hid H_Ms_28
    have H_Ds_28 := (hb28.block (w17.heap.size) (blk_lt' H_Ds_26.out)).trans H_Ds_26.out
    clear k_Ds_26_0 k_Ds_26_1 k_Ds_26_2 k_Ds_26_3 f_Ds_26 H_Ds_26
    obtain ⟨k_Ds_28_0, k_Ds_28_1, k_Ds_28_2, k_Ds_28_3, f_Ds_28, l_Ds_28⟩ := bk4 H_Ds_28
    replace H_Ds_28 := Lib.hid H_Ds_28
    have H_Hs_28 := (hb28.block (w21.heap.size) (blk_lt' H_Hs_26.out)).trans H_Hs_26.out
    clear k_Hs_26_0 k_Hs_26_1 k_Hs_26_2 k_Hs_26_3 f_Hs_26 H_Hs_26
    obtain ⟨k_Hs_28_0, k_Hs_28_1, k_Hs_28_2, k_Hs_28_3, f_Hs_28, l_Hs_28⟩ := bk4 H_Hs_28
    replace H_Hs_28 := Lib.hid H_Hs_28
    have H_Cs_28 := (hb28.block (w25.heap.size) (blk_lt' H_Cs_26.out)).trans H_Cs_26.out
    clear k_Cs_26_0 k_Cs_26_1 k_Cs_26_2 k_Cs_26_3 f_Cs_26 H_Cs_26
    obtain ⟨k_Cs_28_0, k_Cs_28_1, k_Cs_28_2, k_Cs_28_3, f_Cs_28, l_Cs_28⟩ := bk4 H_Cs_28
    replace H_Cs_28 := Lib.hid H_Cs_28
    have hB28 : Below w.heap.size w w28 := below_via hb28 (by assumption) (by first | exact hB26.size | go_size)
    iterate 60 (first | (exact FnIv_18 hB28 H_I_28.out H_K_28.out H_As_28.out H_Si_28.out H_Ms_28.out H_Ds_28.out H_Hs_28.out H_Cs_28.out RX.out RY.out Fs.out Fm.out Fd.out Fh.out Fc.out Fb.out) | go_values | go_skip | go_guarded | go_step | go_upon | go_back | skip)
end Go.Proofs.Ythifeabcobgbmaa
