/- FnCubicRoots: the walk of the law. -/
import Derived.Test.YtldonmcbnhgbdaaCrc
import Derived.Test.YtldonmcbnhgbdaaOpen5
namespace Go.Proofs.Ytldonmcbnhgbdaa
open Go.RowKit
set_option linter.unusedVariables false
set_option maxHeartbeats 0
set_option maxRecDepth 20000
set_option linter.unusedSimpArgs false

theorem FnCubicRoots_any {s1 s2 : Option Addr} {m1 c1 m2 c2 : Nat} (w : World) (h1 : ByW w s1 m1) (h2 : ByW w s2 m2) : Calls Try.prog 3 #[.slice s1 m1 c1, .slice s2 m2 c2] w fun e w' => e = .returned (.bool true) ∧ Below w.heap.size w w' := by
  by_cases hbig : (1048576 : Int) < wrap64 ((m1 : Int) + m2)
  · go_enter Try.func3, Try.ntmps3
    go_wp2_with fail
    go_ret
    refine ⟨rfl, ?_⟩
    repeat' first | (with_reducible first | apply zRf | assumption | apply zDn | apply zDr | apply zAl | apply zSt | refine zVi (by assumption) ?_ ?_) | go_size
  have tok1 : True := trivial
  have tok2 : True := trivial
  have tok3 : True := trivial
  have tok4 : True := trivial
  have tok5 : True := trivial
  have tok6 : True := trivial
  have tok7 : True := trivial
  have tok8 : True := trivial
  have tok9 : True := trivial
  have tok10 : True := trivial
  have tok11 : True := trivial
  have tok12 : True := trivial
  have tok13 : True := trivial
  have tok14 : True := trivial
  have tok15 : True := trivial
  have tok16 : True := trivial
  have tok17 : True := trivial
  have tok18 : True := trivial
  have tok19 : True := trivial
  have tok20 : True := trivial
  have tok21 : True := trivial
  have tok22 : True := trivial
  have tok23 : True := trivial
  have tok24 : True := trivial
  have tok25 : True := trivial
  have tok26 : True := trivial
  have tok27 : True := trivial
  have tok28 : True := trivial
  have tok29 : True := trivial
  have tok30 : True := trivial
  have tok31 : True := trivial
  have tok32 : True := trivial
  have tok33 : True := trivial
  have tok34 : True := trivial
  have tok35 : True := trivial
  have tok36 : True := trivial
  have tok37 : True := trivial
  have tok38 : True := trivial
  go_enter Try.func3, Try.ntmps3
  go_upto_region 4 with (first | (have _t := tok1; go_at_call 4; refine (DrawRationalRoots_any (h1.below (by repeat' first | (with_reducible first | apply zRf | assumption | apply zDn | apply zDr | apply zAl | apply zSt | refine zVi (by assumption) ?_ ?_) | go_size))).mono ?_; rintro e w1 ⟨a, b, c, d, rfl, hb1⟩; clear tok1 _t; have hz1 := hb1.size; (try simp only [World.size_alloc, World.size_setCell, World.size_drew, World.size_drewN'] at hz1)))
  obtain ⟨n, zs, o, ir, R3, R5, R7, R9, hz, hn, Fk⟩ := cr_set1 a b c d
  have T3 := fun W : World => Lib.hid (R3 W)
  have T5 := fun W : World => Lib.hid (R5 W)
  have T7 := fun W : World => Lib.hid (R7 W)
  have T9 := fun W : World => Lib.hid (R9 W)
  clear R3 R5 R7 R9
  replace Fk := Lib.hid Fk
  refine chk (fun W => Below w.heap.size w W ∧ W.heap[w1.heap.size]? = some (.cells #[.int .i64 a, .int .i64 b, .int .i64 c, .int .i64 d] 24 (0, 0))) (by refine ⟨?_, ?_⟩ <;> (repeat' first | (with_reducible first | assumption | (apply Ne.symm; assumption) | apply Nat.le_refl | apply Nat.le_add_right | apply zL | apply zRf | apply Wx.box | apply Wx.box4 | apply zWa | apply Wx.drew | apply zWn | apply bx_drew | apply bx_drewN | apply bx_set3 | apply bx_set2 | apply bx_set4 | apply bx_set1) | ((with_reducible apply bx_new); (focus (go_size; done))) | (with_reducible first | apply zOl | apply zFa | apply zDn | apply zDr | apply zAl | apply zSt | refine zVi (by assumption) ?_ ?_) | go_size | omega)) ?_
  rintro w2 ⟨hB2, H_F_2⟩
  obtain ⟨k_F_2_0, k_F_2_1, k_F_2_2, k_F_2_3, f_F_2, l_F_2⟩ := bk4 H_F_2
  replace H_F_2 := Lib.hid H_F_2
  clear hb1 h1 hbig
  go_upto_region 5 with (first | (have _t := tok3; go_at_call 5; refine ((T3 _).out).mono ?_; rintro e w3 ⟨a6, c6, rfl, hq3, hb3⟩; clear tok3 _t; have hz3 := hb3.size; (try simp only [World.size_alloc, World.size_setCell, World.size_drew, World.size_drewN'] at hz3)))
  have H_F_3 := (hb3.block (w1.heap.size) (blk_lt' H_F_2.out)).trans H_F_2.out
  clear k_F_2_0 k_F_2_1 k_F_2_2 k_F_2_3 f_F_2 H_F_2
  obtain ⟨k_F_3_0, k_F_3_1, k_F_3_2, k_F_3_3, f_F_3, l_F_3⟩ := bk4 H_F_3
  replace H_F_3 := Lib.hid H_F_3
  have hB3 : Below w.heap.size w w3 := below_via hb3 (by assumption) (by first | exact hB2.size | go_size)
  replace hq3 := Lib.hid hq3
  clear hb3 T3
  replace H_F_3 := H_F_3.out
  refine chk (fun W => Below w.heap.size w W ∧ W.heap[w1.heap.size]? = some (.cells #[.int .i64 a, .int .i64 b, .int .i64 c, .int .i64 d] 24 (0, 0)) ∧ Below w3.heap.size w3 W) (by refine ⟨?_, ?_, ?_⟩ <;> (repeat' first | (with_reducible first | assumption | (apply Ne.symm; assumption) | apply Nat.le_refl | apply Nat.le_add_right | apply zL | apply zRf | apply Wx.box | apply Wx.box4 | apply zWa | apply Wx.drew | apply zWn | apply bx_drew | apply bx_drewN | apply bx_set3 | apply bx_set2 | apply bx_set4 | apply bx_set1) | ((with_reducible apply bx_new); (focus (go_size; done))) | (with_reducible first | apply zOl | apply zFa | apply zDn | apply zDr | apply zAl | apply zSt | refine zVi (by assumption) ?_ ?_) | go_size | omega)) ?_
  clear k_F_3_0 k_F_3_1 k_F_3_2 k_F_3_3 f_F_3 H_F_3
  clear hB3
  rintro w4 ⟨hB4, H_F_4, HB3⟩
  obtain ⟨k_F_4_0, k_F_4_1, k_F_4_2, k_F_4_3, f_F_4, l_F_4⟩ := bk4 H_F_4
  replace H_F_4 := Lib.hid H_F_4
  go_upto_region 6 with (first | (have _t := tok5; go_at_call 6; refine ((T5 _).out).mono ?_; rintro e w5 ⟨a8, c8, rfl, hq5, hb5⟩; clear tok5 _t; have hz5 := hb5.size; (try simp only [World.size_alloc, World.size_setCell, World.size_drew, World.size_drewN'] at hz5)))
  have H_F_5 := (hb5.block (w1.heap.size) (blk_lt' H_F_4.out)).trans H_F_4.out
  clear k_F_4_0 k_F_4_1 k_F_4_2 k_F_4_3 f_F_4 H_F_4
  obtain ⟨k_F_5_0, k_F_5_1, k_F_5_2, k_F_5_3, f_F_5, l_F_5⟩ := bk4 H_F_5
  replace H_F_5 := Lib.hid H_F_5
  have hB5 : Below w.heap.size w w5 := below_via hb5 (by assumption) (by first | exact hB4.size | go_size)
  replace hq5 := Lib.hid hq5
  have HB3 := HB3.trans (hb5.mono HB3.size)
  have sq3 := HB3.size
  clear hb5 T5
  replace H_F_5 := H_F_5.out
  refine chk (fun W => Below w.heap.size w W ∧ W.heap[w1.heap.size]? = some (.cells #[.int .i64 a, .int .i64 b, .int .i64 c, .int .i64 d] 24 (0, 0)) ∧ Below w3.heap.size w3 W ∧ Below w5.heap.size w5 W) (by refine ⟨?_, ?_, ?_, ?_⟩ <;> (repeat' first | (with_reducible first | assumption | (apply Ne.symm; assumption) | apply Nat.le_refl | apply Nat.le_add_right | apply zL | apply zRf | apply Wx.box | apply Wx.box4 | apply zWa | apply Wx.drew | apply zWn | apply bx_drew | apply bx_drewN | apply bx_set3 | apply bx_set2 | apply bx_set4 | apply bx_set1) | ((with_reducible apply bx_new); (focus (go_size; done))) | (with_reducible first | apply zOl | apply zFa | apply zDn | apply zDr | apply zAl | apply zSt | refine zVi (by assumption) ?_ ?_) | go_size | omega)) ?_
  clear k_F_5_0 k_F_5_1 k_F_5_2 k_F_5_3 f_F_5 H_F_5
  clear hB5
  rintro w6 ⟨hB6, H_F_6, HB3, HB5⟩
  obtain ⟨k_F_6_0, k_F_6_1, k_F_6_2, k_F_6_3, f_F_6, l_F_6⟩ := bk4 H_F_6
  replace H_F_6 := Lib.hid H_F_6
  clear sq3
  go_upto_region 7 with (first | (have _t := tok7; go_at_call 7; (with_reducible refine ((T7 _).out).mono ?_); rintro e w7 ⟨rfl, hb7⟩; clear tok7 _t; have hz7 := hb7.size; (try simp only [World.size_alloc, World.size_setCell, World.size_drew, World.size_drewN'] at hz7)))
  have H_F_7 := (hb7.block (w1.heap.size) (blk_lt' H_F_6.out)).trans H_F_6.out
  clear k_F_6_0 k_F_6_1 k_F_6_2 k_F_6_3 f_F_6 H_F_6
  obtain ⟨k_F_7_0, k_F_7_1, k_F_7_2, k_F_7_3, f_F_7, l_F_7⟩ := bk4 H_F_7
  replace H_F_7 := Lib.hid H_F_7
  have hB7 : Below w.heap.size w w7 := below_via hb7 (by assumption) (by first | exact hB6.size | go_size)
  have HB3 := HB3.trans (hb7.mono HB3.size)
  have sq3 := HB3.size
  have HB5 := HB5.trans (hb7.mono HB5.size)
  have sq5 := HB5.size
  clear hb7 T7
  replace H_F_7 := H_F_7.out
  refine chk (fun W => Below w.heap.size w W ∧ W.heap[w1.heap.size]? = some (.cells #[.int .i64 a, .int .i64 b, .int .i64 c, .int .i64 d] 24 (0, 0)) ∧ Below w3.heap.size w3 W ∧ Below w5.heap.size w5 W) (by refine ⟨?_, ?_, ?_, ?_⟩ <;> (repeat' first | (with_reducible first | assumption | (apply Ne.symm; assumption) | apply Nat.le_refl | apply Nat.le_add_right | apply zL | apply zRf | apply Wx.box | apply Wx.box4 | apply zWa | apply Wx.drew | apply zWn | apply bx_drew | apply bx_drewN | apply bx_set3 | apply bx_set2 | apply bx_set4 | apply bx_set1) | ((with_reducible apply bx_new); (focus (go_size; done))) | (with_reducible first | apply zOl | apply zFa | apply zDn | apply zDr | apply zAl | apply zSt | refine zVi (by assumption) ?_ ?_) | go_size | omega)) ?_
  clear k_F_7_0 k_F_7_1 k_F_7_2 k_F_7_3 f_F_7 H_F_7
  clear hB7
  rintro w8 ⟨hB8, H_F_8, HB3, HB5⟩
  obtain ⟨k_F_8_0, k_F_8_1, k_F_8_2, k_F_8_3, f_F_8, l_F_8⟩ := bk4 H_F_8
  replace H_F_8 := Lib.hid H_F_8
  clear sq3 sq5
  go_upto_region 8 with (first | (have _t := tok9; go_at_call 8; (with_reducible refine ((T9 _).out).mono ?_); rintro e w9 ⟨rfl, hb9⟩; clear tok9 _t; have hz9 := hb9.size; (try simp only [World.size_alloc, World.size_setCell, World.size_drew, World.size_drewN'] at hz9)))
  have H_F_9 := (hb9.block (w1.heap.size) (blk_lt' H_F_8.out)).trans H_F_8.out
  clear k_F_8_0 k_F_8_1 k_F_8_2 k_F_8_3 f_F_8 H_F_8
  obtain ⟨k_F_9_0, k_F_9_1, k_F_9_2, k_F_9_3, f_F_9, l_F_9⟩ := bk4 H_F_9
  replace H_F_9 := Lib.hid H_F_9
  have hB9 : Below w.heap.size w w9 := below_via hb9 (by assumption) (by first | exact hB8.size | go_size)
  have HB3 := HB3.trans (hb9.mono HB3.size)
  have sq3 := HB3.size
  have HB5 := HB5.trans (hb9.mono HB5.size)
  have sq5 := HB5.size
  clear hb9 T9
  replace H_F_9 := H_F_9.out
  refine chk (fun W => Below w.heap.size w W ∧ W.heap[w1.heap.size]? = some (.cells #[.int .i64 a, .int .i64 b, .int .i64 c, .int .i64 d] 24 (0, 0)) ∧ Below w3.heap.size w3 W ∧ Below w5.heap.size w5 W) (by refine ⟨?_, ?_, ?_, ?_⟩ <;> (repeat' first | (with_reducible first | assumption | (apply Ne.symm; assumption) | apply Nat.le_refl | apply Nat.le_add_right | apply zL | apply zRf | apply Wx.box | apply Wx.box4 | apply zWa | apply Wx.drew | apply zWn | apply bx_drew | apply bx_drewN | apply bx_set3 | apply bx_set2 | apply bx_set4 | apply bx_set1) | ((with_reducible apply bx_new); (focus (go_size; done))) | (with_reducible first | apply zOl | apply zFa | apply zDn | apply zDr | apply zAl | apply zSt | refine zVi (by assumption) ?_ ?_) | go_size | omega)) ?_
  clear k_F_9_0 k_F_9_1 k_F_9_2 k_F_9_3 f_F_9 H_F_9
  clear hB9
  rintro w10 ⟨hB10, H_F_10, HB3, HB5⟩
  obtain ⟨k_F_10_0, k_F_10_1, k_F_10_2, k_F_10_3, f_F_10, l_F_10⟩ := bk4 H_F_10
  replace H_F_10 := Lib.hid H_F_10
  clear sq3 sq5
  go_upto_region 9 with (first | (have _t := tok11; go_at_call 9; refine (DrawRootCells_any (h2.below (by repeat' first | (with_reducible first | apply zRf | assumption | apply zDn | apply zDr | apply zAl | apply zSt | refine zVi (by assumption) ?_ ?_) | go_size))).mono ?_; rintro e w11 ⟨ga, gb, gc, gd, rfl, hb11⟩; clear tok11 _t; have hz11 := hb11.size; (try simp only [World.size_alloc, World.size_setCell, World.size_drew, World.size_drewN'] at hz11)))
  have H_F_11 := (hb11.block (w1.heap.size) (blk_lt' H_F_10.out)).trans H_F_10.out
  clear k_F_10_0 k_F_10_1 k_F_10_2 k_F_10_3 f_F_10 H_F_10
  obtain ⟨k_F_11_0, k_F_11_1, k_F_11_2, k_F_11_3, f_F_11, l_F_11⟩ := bk4 H_F_11
  replace H_F_11 := Lib.hid H_F_11
  have hB11 : Below w.heap.size w w11 := below_via hb11 (by assumption) (by first | exact hB10.size | go_size)
  have HB3 := HB3.trans (hb11.mono HB3.size)
  have sq3 := HB3.size
  have HB5 := HB5.trans (hb11.mono HB5.size)
  have sq5 := HB5.size
  clear hb11
  obtain ⟨C, N, D, o3, R13, R15, R17, R19, R21, R23, hC, Fc⟩ := cr_set2 ga gb gc gd
  have T13 := fun W : World => Lib.hid (R13 W)
  have T15 := fun W : World => Lib.hid (R15 W)
  have T17 := fun W : World => Lib.hid (R17 W)
  have T19 := fun W : World => Lib.hid (R19 W)
  have T21 := fun W : World => Lib.hid (R21 W)
  have T23 := fun W : World => Lib.hid (R23 W)
  clear R13 R15 R17 R19 R21 R23
  replace Fc := Lib.hid Fc
  replace H_F_11 := H_F_11.out
  refine chk (fun W => Below w.heap.size w W ∧ W.heap[w1.heap.size]? = some (.cells #[.int .i64 a, .int .i64 b, .int .i64 c, .int .i64 d] 24 (0, 0)) ∧ W.heap[w11.heap.size]? = some (.cells #[.int .i64 ga, .int .i64 gb, .int .i64 gc, .int .i64 gd] 24 (0, 0)) ∧ Below w3.heap.size w3 W ∧ Below w5.heap.size w5 W) (by refine ⟨?_, ?_, ?_, ?_, ?_⟩ <;> (repeat' first | (with_reducible first | assumption | (apply Ne.symm; assumption) | apply Nat.le_refl | apply Nat.le_add_right | apply zL | apply zRf | apply Wx.box | apply Wx.box4 | apply zWa | apply Wx.drew | apply zWn | apply bx_drew | apply bx_drewN | apply bx_set3 | apply bx_set2 | apply bx_set4 | apply bx_set1) | ((with_reducible apply bx_new); (focus (go_size; done))) | (with_reducible first | apply zOl | apply zFa | apply zDn | apply zDr | apply zAl | apply zSt | refine zVi (by assumption) ?_ ?_) | go_size | omega)) ?_
  clear k_F_11_0 k_F_11_1 k_F_11_2 k_F_11_3 f_F_11 H_F_11
  clear hB11
  rintro w12 ⟨hB12, H_F_12, H_G_12, HB3, HB5⟩
  obtain ⟨k_F_12_0, k_F_12_1, k_F_12_2, k_F_12_3, f_F_12, l_F_12⟩ := bk4 H_F_12
  replace H_F_12 := Lib.hid H_F_12
  obtain ⟨k_G_12_0, k_G_12_1, k_G_12_2, k_G_12_3, f_G_12, l_G_12⟩ := bk4 H_G_12
  replace H_G_12 := Lib.hid H_G_12
  clear sq3 sq5
  go_upto_region 10 with (first | (have _t := tok13; go_at_call 10; refine ((T13 _).out).mono ?_; rintro e w13 ⟨a15, c15, rfl, hq13, hb13⟩; clear tok13 _t; have hz13 := hb13.size; (try simp only [World.size_alloc, World.size_setCell, World.size_drew, World.size_drewN'] at hz13)))
  have H_F_13 := (hb13.block (w1.heap.size) (blk_lt' H_F_12.out)).trans H_F_12.out
  clear k_F_12_0 k_F_12_1 k_F_12_2 k_F_12_3 f_F_12 H_F_12
  obtain ⟨k_F_13_0, k_F_13_1, k_F_13_2, k_F_13_3, f_F_13, l_F_13⟩ := bk4 H_F_13
  replace H_F_13 := Lib.hid H_F_13
  have H_G_13 := (hb13.block (w11.heap.size) (blk_lt' H_G_12.out)).trans H_G_12.out
  clear k_G_12_0 k_G_12_1 k_G_12_2 k_G_12_3 f_G_12 H_G_12
  obtain ⟨k_G_13_0, k_G_13_1, k_G_13_2, k_G_13_3, f_G_13, l_G_13⟩ := bk4 H_G_13
  replace H_G_13 := Lib.hid H_G_13
  have hB13 : Below w.heap.size w w13 := below_via hb13 (by assumption) (by first | exact hB12.size | go_size)
  replace hq13 := Lib.hid hq13
  have HB3 := HB3.trans (hb13.mono HB3.size)
  have sq3 := HB3.size
  have HB5 := HB5.trans (hb13.mono HB5.size)
  have sq5 := HB5.size
  clear hb13 T13
  replace H_F_13 := H_F_13.out
  replace H_G_13 := H_G_13.out
  refine chk (fun W => Below w.heap.size w W ∧ W.heap[w1.heap.size]? = some (.cells #[.int .i64 a, .int .i64 b, .int .i64 c, .int .i64 d] 24 (0, 0)) ∧ W.heap[w11.heap.size]? = some (.cells #[.int .i64 ga, .int .i64 gb, .int .i64 gc, .int .i64 gd] 24 (0, 0)) ∧ Below w3.heap.size w3 W ∧ Below w5.heap.size w5 W ∧ Below w13.heap.size w13 W) (by refine ⟨?_, ?_, ?_, ?_, ?_, ?_⟩ <;> (repeat' first | (with_reducible first | assumption | (apply Ne.symm; assumption) | apply Nat.le_refl | apply Nat.le_add_right | apply zL | apply zRf | apply Wx.box | apply Wx.box4 | apply zWa | apply Wx.drew | apply zWn | apply bx_drew | apply bx_drewN | apply bx_set3 | apply bx_set2 | apply bx_set4 | apply bx_set1) | ((with_reducible apply bx_new); (focus (go_size; done))) | (with_reducible first | apply zOl | apply zFa | apply zDn | apply zDr | apply zAl | apply zSt | refine zVi (by assumption) ?_ ?_) | go_size | omega)) ?_
  clear k_F_13_0 k_F_13_1 k_F_13_2 k_F_13_3 f_F_13 H_F_13
  clear k_G_13_0 k_G_13_1 k_G_13_2 k_G_13_3 f_G_13 H_G_13
  clear hB13
  rintro w14 ⟨hB14, H_F_14, H_G_14, HB3, HB5, HB13⟩
  obtain ⟨k_F_14_0, k_F_14_1, k_F_14_2, k_F_14_3, f_F_14, l_F_14⟩ := bk4 H_F_14
  replace H_F_14 := Lib.hid H_F_14
  obtain ⟨k_G_14_0, k_G_14_1, k_G_14_2, k_G_14_3, f_G_14, l_G_14⟩ := bk4 H_G_14
  replace H_G_14 := Lib.hid H_G_14
  clear sq3 sq5
  go_upto_region 11 with (first | (have _t := tok15; go_at_call 11; refine ((T15 _).out).mono ?_; rintro e w15 ⟨a17, c17, rfl, hq15, hb15⟩; clear tok15 _t; have hz15 := hb15.size; (try simp only [World.size_alloc, World.size_setCell, World.size_drew, World.size_drewN'] at hz15)))
  have H_F_15 := (hb15.block (w1.heap.size) (blk_lt' H_F_14.out)).trans H_F_14.out
  clear k_F_14_0 k_F_14_1 k_F_14_2 k_F_14_3 f_F_14 H_F_14
  obtain ⟨k_F_15_0, k_F_15_1, k_F_15_2, k_F_15_3, f_F_15, l_F_15⟩ := bk4 H_F_15
  replace H_F_15 := Lib.hid H_F_15
  have H_G_15 := (hb15.block (w11.heap.size) (blk_lt' H_G_14.out)).trans H_G_14.out
  clear k_G_14_0 k_G_14_1 k_G_14_2 k_G_14_3 f_G_14 H_G_14
  obtain ⟨k_G_15_0, k_G_15_1, k_G_15_2, k_G_15_3, f_G_15, l_G_15⟩ := bk4 H_G_15
  replace H_G_15 := Lib.hid H_G_15
  have hB15 : Below w.heap.size w w15 := below_via hb15 (by assumption) (by first | exact hB14.size | go_size)
  replace hq15 := Lib.hid hq15
  have HB3 := HB3.trans (hb15.mono HB3.size)
  have sq3 := HB3.size
  have HB5 := HB5.trans (hb15.mono HB5.size)
  have sq5 := HB5.size
  have HB13 := HB13.trans (hb15.mono HB13.size)
  have sq13 := HB13.size
  clear hb15 T15
  replace H_F_15 := H_F_15.out
  replace H_G_15 := H_G_15.out
  refine chk (fun W => Below w.heap.size w W ∧ W.heap[w1.heap.size]? = some (.cells #[.int .i64 a, .int .i64 b, .int .i64 c, .int .i64 d] 24 (0, 0)) ∧ W.heap[w11.heap.size]? = some (.cells #[.int .i64 ga, .int .i64 gb, .int .i64 gc, .int .i64 gd] 24 (0, 0)) ∧ Below w3.heap.size w3 W ∧ Below w5.heap.size w5 W ∧ Below w13.heap.size w13 W ∧ Below w15.heap.size w15 W) (by refine ⟨?_, ?_, ?_, ?_, ?_, ?_, ?_⟩ <;> (repeat' first | (with_reducible first | assumption | (apply Ne.symm; assumption) | apply Nat.le_refl | apply Nat.le_add_right | apply zL | apply zRf | apply Wx.box | apply Wx.box4 | apply zWa | apply Wx.drew | apply zWn | apply bx_drew | apply bx_drewN | apply bx_set3 | apply bx_set2 | apply bx_set4 | apply bx_set1) | ((with_reducible apply bx_new); (focus (go_size; done))) | (with_reducible first | apply zOl | apply zFa | apply zDn | apply zDr | apply zAl | apply zSt | refine zVi (by assumption) ?_ ?_) | go_size | omega)) ?_
  clear k_F_15_0 k_F_15_1 k_F_15_2 k_F_15_3 f_F_15 H_F_15
  clear k_G_15_0 k_G_15_1 k_G_15_2 k_G_15_3 f_G_15 H_G_15
  clear hB15
  rintro w16 ⟨hB16, H_F_16, H_G_16, HB3, HB5, HB13, HB15⟩
  obtain ⟨k_F_16_0, k_F_16_1, k_F_16_2, k_F_16_3, f_F_16, l_F_16⟩ := bk4 H_F_16
  replace H_F_16 := Lib.hid H_F_16
  obtain ⟨k_G_16_0, k_G_16_1, k_G_16_2, k_G_16_3, f_G_16, l_G_16⟩ := bk4 H_G_16
  replace H_G_16 := Lib.hid H_G_16
  clear sq3 sq5 sq13
  go_upto_region 12 with (first | (have _t := tok17; go_at_call 12; (with_reducible refine ((T17 _).out).mono ?_); rintro e w17 ⟨rfl, hb17⟩; clear tok17 _t; have hz17 := hb17.size; (try simp only [World.size_alloc, World.size_setCell, World.size_drew, World.size_drewN'] at hz17)))
  have H_F_17 := (hb17.block (w1.heap.size) (blk_lt' H_F_16.out)).trans H_F_16.out
  clear k_F_16_0 k_F_16_1 k_F_16_2 k_F_16_3 f_F_16 H_F_16
  obtain ⟨k_F_17_0, k_F_17_1, k_F_17_2, k_F_17_3, f_F_17, l_F_17⟩ := bk4 H_F_17
  replace H_F_17 := Lib.hid H_F_17
  have H_G_17 := (hb17.block (w11.heap.size) (blk_lt' H_G_16.out)).trans H_G_16.out
  clear k_G_16_0 k_G_16_1 k_G_16_2 k_G_16_3 f_G_16 H_G_16
  obtain ⟨k_G_17_0, k_G_17_1, k_G_17_2, k_G_17_3, f_G_17, l_G_17⟩ := bk4 H_G_17
  replace H_G_17 := Lib.hid H_G_17
  have hB17 : Below w.heap.size w w17 := below_via hb17 (by assumption) (by first | exact hB16.size | go_size)
  have HB3 := HB3.trans (hb17.mono HB3.size)
  have sq3 := HB3.size
  have HB5 := HB5.trans (hb17.mono HB5.size)
  have sq5 := HB5.size
  have HB13 := HB13.trans (hb17.mono HB13.size)
  have sq13 := HB13.size
  have HB15 := HB15.trans (hb17.mono HB15.size)
  have sq15 := HB15.size
  clear hb17 T17
  replace H_F_17 := H_F_17.out
  replace H_G_17 := H_G_17.out
  refine chk (fun W => Below w.heap.size w W ∧ W.heap[w1.heap.size]? = some (.cells #[.int .i64 a, .int .i64 b, .int .i64 c, .int .i64 d] 24 (0, 0)) ∧ W.heap[w11.heap.size]? = some (.cells #[.int .i64 ga, .int .i64 gb, .int .i64 gc, .int .i64 gd] 24 (0, 0)) ∧ Below w3.heap.size w3 W ∧ Below w5.heap.size w5 W ∧ Below w13.heap.size w13 W ∧ Below w15.heap.size w15 W) (by refine ⟨?_, ?_, ?_, ?_, ?_, ?_, ?_⟩ <;> (repeat' first | (with_reducible first | assumption | (apply Ne.symm; assumption) | apply Nat.le_refl | apply Nat.le_add_right | apply zL | apply zRf | apply Wx.box | apply Wx.box4 | apply zWa | apply Wx.drew | apply zWn | apply bx_drew | apply bx_drewN | apply bx_set3 | apply bx_set2 | apply bx_set4 | apply bx_set1) | ((with_reducible apply bx_new); (focus (go_size; done))) | (with_reducible first | apply zOl | apply zFa | apply zDn | apply zDr | apply zAl | apply zSt | refine zVi (by assumption) ?_ ?_) | go_size | omega)) ?_
  clear k_F_17_0 k_F_17_1 k_F_17_2 k_F_17_3 f_F_17 H_F_17
  clear k_G_17_0 k_G_17_1 k_G_17_2 k_G_17_3 f_G_17 H_G_17
  clear hB17
  rintro w18 ⟨hB18, H_F_18, H_G_18, HB3, HB5, HB13, HB15⟩
  obtain ⟨k_F_18_0, k_F_18_1, k_F_18_2, k_F_18_3, f_F_18, l_F_18⟩ := bk4 H_F_18
  replace H_F_18 := Lib.hid H_F_18
  obtain ⟨k_G_18_0, k_G_18_1, k_G_18_2, k_G_18_3, f_G_18, l_G_18⟩ := bk4 H_G_18
  replace H_G_18 := Lib.hid H_G_18
  clear sq3 sq5 sq13 sq15
  go_upto_region 13 with (first | (have _t := tok19; go_at_call 13; (with_reducible refine ((T19 _).out).mono ?_); rintro e w19 ⟨rfl, hb19⟩; clear tok19 _t; have hz19 := hb19.size; (try simp only [World.size_alloc, World.size_setCell, World.size_drew, World.size_drewN'] at hz19)))
  have H_F_19 := (hb19.block (w1.heap.size) (blk_lt' H_F_18.out)).trans H_F_18.out
  clear k_F_18_0 k_F_18_1 k_F_18_2 k_F_18_3 f_F_18 H_F_18
  obtain ⟨k_F_19_0, k_F_19_1, k_F_19_2, k_F_19_3, f_F_19, l_F_19⟩ := bk4 H_F_19
  replace H_F_19 := Lib.hid H_F_19
  have H_G_19 := (hb19.block (w11.heap.size) (blk_lt' H_G_18.out)).trans H_G_18.out
  clear k_G_18_0 k_G_18_1 k_G_18_2 k_G_18_3 f_G_18 H_G_18
  obtain ⟨k_G_19_0, k_G_19_1, k_G_19_2, k_G_19_3, f_G_19, l_G_19⟩ := bk4 H_G_19
  replace H_G_19 := Lib.hid H_G_19
  have hB19 : Below w.heap.size w w19 := below_via hb19 (by assumption) (by first | exact hB18.size | go_size)
  have HB3 := HB3.trans (hb19.mono HB3.size)
  have sq3 := HB3.size
  have HB5 := HB5.trans (hb19.mono HB5.size)
  have sq5 := HB5.size
  have HB13 := HB13.trans (hb19.mono HB13.size)
  have sq13 := HB13.size
  have HB15 := HB15.trans (hb19.mono HB15.size)
  have sq15 := HB15.size
  clear hb19 T19
  replace H_F_19 := H_F_19.out
  replace H_G_19 := H_G_19.out
  refine chk (fun W => Below w.heap.size w W ∧ W.heap[w1.heap.size]? = some (.cells #[.int .i64 a, .int .i64 b, .int .i64 c, .int .i64 d] 24 (0, 0)) ∧ W.heap[w11.heap.size]? = some (.cells #[.int .i64 ga, .int .i64 gb, .int .i64 gc, .int .i64 gd] 24 (0, 0)) ∧ Below w3.heap.size w3 W ∧ Below w5.heap.size w5 W ∧ Below w13.heap.size w13 W ∧ Below w15.heap.size w15 W) (by refine ⟨?_, ?_, ?_, ?_, ?_, ?_, ?_⟩ <;> (repeat' first | (with_reducible first | assumption | (apply Ne.symm; assumption) | apply Nat.le_refl | apply Nat.le_add_right | apply zL | apply zRf | apply Wx.box | apply Wx.box4 | apply zWa | apply Wx.drew | apply zWn | apply bx_drew | apply bx_drewN | apply bx_set3 | apply bx_set2 | apply bx_set4 | apply bx_set1) | ((with_reducible apply bx_new); (focus (go_size; done))) | (with_reducible first | apply zOl | apply zFa | apply zDn | apply zDr | apply zAl | apply zSt | refine zVi (by assumption) ?_ ?_) | go_size | omega)) ?_
  clear k_F_19_0 k_F_19_1 k_F_19_2 k_F_19_3 f_F_19 H_F_19
  clear k_G_19_0 k_G_19_1 k_G_19_2 k_G_19_3 f_G_19 H_G_19
  clear hB19
  rintro w20 ⟨hB20, H_F_20, H_G_20, HB3, HB5, HB13, HB15⟩
  obtain ⟨k_F_20_0, k_F_20_1, k_F_20_2, k_F_20_3, f_F_20, l_F_20⟩ := bk4 H_F_20
  replace H_F_20 := Lib.hid H_F_20
  obtain ⟨k_G_20_0, k_G_20_1, k_G_20_2, k_G_20_3, f_G_20, l_G_20⟩ := bk4 H_G_20
  replace H_G_20 := Lib.hid H_G_20
  clear sq3 sq5 sq13 sq15
  go_upto_region 14 with (first | (have _t := tok21; go_at_call 14; (with_reducible refine ((T21 _).out).mono ?_); rintro e w21 ⟨rfl, hb21⟩; clear tok21 _t; have hz21 := hb21.size; (try simp only [World.size_alloc, World.size_setCell, World.size_drew, World.size_drewN'] at hz21)))
  have H_F_21 := (hb21.block (w1.heap.size) (blk_lt' H_F_20.out)).trans H_F_20.out
  clear k_F_20_0 k_F_20_1 k_F_20_2 k_F_20_3 f_F_20 H_F_20
  obtain ⟨k_F_21_0, k_F_21_1, k_F_21_2, k_F_21_3, f_F_21, l_F_21⟩ := bk4 H_F_21
  replace H_F_21 := Lib.hid H_F_21
  have H_G_21 := (hb21.block (w11.heap.size) (blk_lt' H_G_20.out)).trans H_G_20.out
  clear k_G_20_0 k_G_20_1 k_G_20_2 k_G_20_3 f_G_20 H_G_20
  obtain ⟨k_G_21_0, k_G_21_1, k_G_21_2, k_G_21_3, f_G_21, l_G_21⟩ := bk4 H_G_21
  replace H_G_21 := Lib.hid H_G_21
  have hB21 : Below w.heap.size w w21 := below_via hb21 (by assumption) (by first | exact hB20.size | go_size)
  have HB3 := HB3.trans (hb21.mono HB3.size)
  have sq3 := HB3.size
  have HB5 := HB5.trans (hb21.mono HB5.size)
  have sq5 := HB5.size
  have HB13 := HB13.trans (hb21.mono HB13.size)
  have sq13 := HB13.size
  have HB15 := HB15.trans (hb21.mono HB15.size)
  have sq15 := HB15.size
  clear hb21 T21
  replace H_F_21 := H_F_21.out
  replace H_G_21 := H_G_21.out
  refine chk (fun W => Below w.heap.size w W ∧ W.heap[w1.heap.size]? = some (.cells #[.int .i64 a, .int .i64 b, .int .i64 c, .int .i64 d] 24 (0, 0)) ∧ W.heap[w11.heap.size]? = some (.cells #[.int .i64 ga, .int .i64 gb, .int .i64 gc, .int .i64 gd] 24 (0, 0)) ∧ Below w3.heap.size w3 W ∧ Below w5.heap.size w5 W ∧ Below w13.heap.size w13 W ∧ Below w15.heap.size w15 W) (by refine ⟨?_, ?_, ?_, ?_, ?_, ?_, ?_⟩ <;> (repeat' first | (with_reducible first | assumption | (apply Ne.symm; assumption) | apply Nat.le_refl | apply Nat.le_add_right | apply zL | apply zRf | apply Wx.box | apply Wx.box4 | apply zWa | apply Wx.drew | apply zWn | apply bx_drew | apply bx_drewN | apply bx_set3 | apply bx_set2 | apply bx_set4 | apply bx_set1) | ((with_reducible apply bx_new); (focus (go_size; done))) | (with_reducible first | apply zOl | apply zFa | apply zDn | apply zDr | apply zAl | apply zSt | refine zVi (by assumption) ?_ ?_) | go_size | omega)) ?_
  clear k_F_21_0 k_F_21_1 k_F_21_2 k_F_21_3 f_F_21 H_F_21
  clear k_G_21_0 k_G_21_1 k_G_21_2 k_G_21_3 f_G_21 H_G_21
  clear hB21
  rintro w22 ⟨hB22, H_F_22, H_G_22, HB3, HB5, HB13, HB15⟩
  obtain ⟨k_F_22_0, k_F_22_1, k_F_22_2, k_F_22_3, f_F_22, l_F_22⟩ := bk4 H_F_22
  replace H_F_22 := Lib.hid H_F_22
  obtain ⟨k_G_22_0, k_G_22_1, k_G_22_2, k_G_22_3, f_G_22, l_G_22⟩ := bk4 H_G_22
  replace H_G_22 := Lib.hid H_G_22
  clear sq3 sq5 sq13 sq15
  go_upto_region 15 with (first | (have _t := tok23; go_at_call 15; (with_reducible refine ((T23 _).out).mono ?_); rintro e w23 ⟨rfl, hb23⟩; clear tok23 _t; have hz23 := hb23.size; (try simp only [World.size_alloc, World.size_setCell, World.size_drew, World.size_drewN'] at hz23)))
  have H_F_23 := (hb23.block (w1.heap.size) (blk_lt' H_F_22.out)).trans H_F_22.out
  clear k_F_22_0 k_F_22_1 k_F_22_2 k_F_22_3 f_F_22 H_F_22
  obtain ⟨k_F_23_0, k_F_23_1, k_F_23_2, k_F_23_3, f_F_23, l_F_23⟩ := bk4 H_F_23
  replace H_F_23 := Lib.hid H_F_23
  have H_G_23 := (hb23.block (w11.heap.size) (blk_lt' H_G_22.out)).trans H_G_22.out
  clear k_G_22_0 k_G_22_1 k_G_22_2 k_G_22_3 f_G_22 H_G_22
  obtain ⟨k_G_23_0, k_G_23_1, k_G_23_2, k_G_23_3, f_G_23, l_G_23⟩ := bk4 H_G_23
  replace H_G_23 := Lib.hid H_G_23
  have hB23 : Below w.heap.size w w23 := below_via hb23 (by assumption) (by first | exact hB22.size | go_size)
  have HB3 := HB3.trans (hb23.mono HB3.size)
  have sq3 := HB3.size
  have HB5 := HB5.trans (hb23.mono HB5.size)
  have sq5 := HB5.size
  have HB13 := HB13.trans (hb23.mono HB13.size)
  have sq13 := HB13.size
  have HB15 := HB15.trans (hb23.mono HB15.size)
  have sq15 := HB15.size
  clear hb23 T23
  replace H_F_23 := H_F_23.out
  replace H_G_23 := H_G_23.out
  refine chk (fun W => Below w.heap.size w W ∧ W.heap[w1.heap.size]? = some (.cells #[.int .i64 a, .int .i64 b, .int .i64 c, .int .i64 d] 24 (0, 0)) ∧ W.heap[w11.heap.size]? = some (.cells #[.int .i64 ga, .int .i64 gb, .int .i64 gc, .int .i64 gd] 24 (0, 0)) ∧ Below w3.heap.size w3 W ∧ Below w5.heap.size w5 W ∧ Below w13.heap.size w13 W ∧ Below w15.heap.size w15 W) (by refine ⟨?_, ?_, ?_, ?_, ?_, ?_, ?_⟩ <;> (repeat' first | (with_reducible first | assumption | (apply Ne.symm; assumption) | apply Nat.le_refl | apply Nat.le_add_right | apply zL | apply zRf | apply Wx.box | apply Wx.box4 | apply zWa | apply Wx.drew | apply zWn | apply bx_drew | apply bx_drewN | apply bx_set3 | apply bx_set2 | apply bx_set4 | apply bx_set1) | ((with_reducible apply bx_new); (focus (go_size; done))) | (with_reducible first | apply zOl | apply zFa | apply zDn | apply zDr | apply zAl | apply zSt | refine zVi (by assumption) ?_ ?_) | go_size | omega)) ?_
  clear k_F_23_0 k_F_23_1 k_F_23_2 k_F_23_3 f_F_23 H_F_23
  clear k_G_23_0 k_G_23_1 k_G_23_2 k_G_23_3 f_G_23 H_G_23
  clear hB23
  rintro w24 ⟨hB24, H_F_24, H_G_24, HB3, HB5, HB13, HB15⟩
  obtain ⟨k_F_24_0, k_F_24_1, k_F_24_2, k_F_24_3, f_F_24, l_F_24⟩ := bk4 H_F_24
  replace H_F_24 := Lib.hid H_F_24
  obtain ⟨k_G_24_0, k_G_24_1, k_G_24_2, k_G_24_3, f_G_24, l_G_24⟩ := bk4 H_G_24
  replace H_G_24 := Lib.hid H_G_24
  clear sq3 sq5 sq13 sq15
  go_upto_region 16 with (first | (have _t := tok25; go_at_call 16; refine (DrawRealRootCount_any (h2.below (by repeat' first | (with_reducible first | apply zRf | assumption | apply zDn | apply zDr | apply zAl | apply zSt | refine zVi (by assumption) ?_ ?_) | go_size))).mono ?_; rintro e w25 ⟨ha, hb, hc, hd, rfl, hb25⟩; clear tok25 _t; have hz25 := hb25.size; (try simp only [World.size_alloc, World.size_setCell, World.size_drew, World.size_drewN'] at hz25)))
  have H_F_25 := (hb25.block (w1.heap.size) (blk_lt' H_F_24.out)).trans H_F_24.out
  clear k_F_24_0 k_F_24_1 k_F_24_2 k_F_24_3 f_F_24 H_F_24
  obtain ⟨k_F_25_0, k_F_25_1, k_F_25_2, k_F_25_3, f_F_25, l_F_25⟩ := bk4 H_F_25
  replace H_F_25 := Lib.hid H_F_25
  have H_G_25 := (hb25.block (w11.heap.size) (blk_lt' H_G_24.out)).trans H_G_24.out
  clear k_G_24_0 k_G_24_1 k_G_24_2 k_G_24_3 f_G_24 H_G_24
  obtain ⟨k_G_25_0, k_G_25_1, k_G_25_2, k_G_25_3, f_G_25, l_G_25⟩ := bk4 H_G_25
  replace H_G_25 := Lib.hid H_G_25
  have hB25 : Below w.heap.size w w25 := below_via hb25 (by assumption) (by first | exact hB24.size | go_size)
  have HB3 := HB3.trans (hb25.mono HB3.size)
  have sq3 := HB3.size
  have HB5 := HB5.trans (hb25.mono HB5.size)
  have sq5 := HB5.size
  have HB13 := HB13.trans (hb25.mono HB13.size)
  have sq13 := HB13.size
  have HB15 := HB15.trans (hb25.mono HB15.size)
  have sq15 := HB15.size
  clear hb25
  obtain ⟨M, o5, R27, R29⟩ := cr_set3 ha hb hc hd
  have T27 := fun W : World => Lib.hid (R27 W)
  have T29 := fun W : World => Lib.hid (R29 W)
  clear R27 R29
  replace H_F_25 := H_F_25.out
  replace H_G_25 := H_G_25.out
  refine chk (fun W => Below w.heap.size w W ∧ W.heap[w1.heap.size]? = some (.cells #[.int .i64 a, .int .i64 b, .int .i64 c, .int .i64 d] 24 (0, 0)) ∧ W.heap[w11.heap.size]? = some (.cells #[.int .i64 ga, .int .i64 gb, .int .i64 gc, .int .i64 gd] 24 (0, 0)) ∧ W.heap[w25.heap.size]? = some (.cells #[.int .i64 ha, .int .i64 hb, .int .i64 hc, .int .i64 hd] 24 (0, 0)) ∧ Below w3.heap.size w3 W ∧ Below w5.heap.size w5 W ∧ Below w13.heap.size w13 W ∧ Below w15.heap.size w15 W) (by refine ⟨?_, ?_, ?_, ?_, ?_, ?_, ?_, ?_⟩ <;> (repeat' first | (with_reducible first | assumption | (apply Ne.symm; assumption) | apply Nat.le_refl | apply Nat.le_add_right | apply zL | apply zRf | apply Wx.box | apply Wx.box4 | apply zWa | apply Wx.drew | apply zWn | apply bx_drew | apply bx_drewN | apply bx_set3 | apply bx_set2 | apply bx_set4 | apply bx_set1) | ((with_reducible apply bx_new); (focus (go_size; done))) | (with_reducible first | apply zOl | apply zFa | apply zDn | apply zDr | apply zAl | apply zSt | refine zVi (by assumption) ?_ ?_) | go_size | omega)) ?_
  clear k_F_25_0 k_F_25_1 k_F_25_2 k_F_25_3 f_F_25 H_F_25
  clear k_G_25_0 k_G_25_1 k_G_25_2 k_G_25_3 f_G_25 H_G_25
  clear hB25
  rintro w26 ⟨hB26, H_F_26, H_G_26, H_H_26, HB3, HB5, HB13, HB15⟩
  obtain ⟨k_F_26_0, k_F_26_1, k_F_26_2, k_F_26_3, f_F_26, l_F_26⟩ := bk4 H_F_26
  replace H_F_26 := Lib.hid H_F_26
  obtain ⟨k_G_26_0, k_G_26_1, k_G_26_2, k_G_26_3, f_G_26, l_G_26⟩ := bk4 H_G_26
  replace H_G_26 := Lib.hid H_G_26
  obtain ⟨k_H_26_0, k_H_26_1, k_H_26_2, k_H_26_3, f_H_26, l_H_26⟩ := bk4 H_H_26
  replace H_H_26 := Lib.hid H_H_26
  clear sq3 sq5 sq13 sq15
  go_upto_region 17 with (first | (have _t := tok27; go_at_call 12; (with_reducible refine ((T27 _).out).mono ?_); rintro e w27 ⟨rfl, hb27⟩; clear tok27 _t; have hz27 := hb27.size; (try simp only [World.size_alloc, World.size_setCell, World.size_drew, World.size_drewN'] at hz27)))
  have H_F_27 := (hb27.block (w1.heap.size) (blk_lt' H_F_26.out)).trans H_F_26.out
  clear k_F_26_0 k_F_26_1 k_F_26_2 k_F_26_3 f_F_26 H_F_26
  obtain ⟨k_F_27_0, k_F_27_1, k_F_27_2, k_F_27_3, f_F_27, l_F_27⟩ := bk4 H_F_27
  replace H_F_27 := Lib.hid H_F_27
  have H_G_27 := (hb27.block (w11.heap.size) (blk_lt' H_G_26.out)).trans H_G_26.out
  clear k_G_26_0 k_G_26_1 k_G_26_2 k_G_26_3 f_G_26 H_G_26
  obtain ⟨k_G_27_0, k_G_27_1, k_G_27_2, k_G_27_3, f_G_27, l_G_27⟩ := bk4 H_G_27
  replace H_G_27 := Lib.hid H_G_27
  have H_H_27 := (hb27.block (w25.heap.size) (blk_lt' H_H_26.out)).trans H_H_26.out
  clear k_H_26_0 k_H_26_1 k_H_26_2 k_H_26_3 f_H_26 H_H_26
  obtain ⟨k_H_27_0, k_H_27_1, k_H_27_2, k_H_27_3, f_H_27, l_H_27⟩ := bk4 H_H_27
  replace H_H_27 := Lib.hid H_H_27
  have hB27 : Below w.heap.size w w27 := below_via hb27 (by assumption) (by first | exact hB26.size | go_size)
  have HB3 := HB3.trans (hb27.mono HB3.size)
  have sq3 := HB3.size
  have HB5 := HB5.trans (hb27.mono HB5.size)
  have sq5 := HB5.size
  have HB13 := HB13.trans (hb27.mono HB13.size)
  have sq13 := HB13.size
  have HB15 := HB15.trans (hb27.mono HB15.size)
  have sq15 := HB15.size
  clear hb27 T27
  replace H_F_27 := H_F_27.out
  replace H_G_27 := H_G_27.out
  replace H_H_27 := H_H_27.out
  refine chk (fun W => Below w.heap.size w W ∧ W.heap[w1.heap.size]? = some (.cells #[.int .i64 a, .int .i64 b, .int .i64 c, .int .i64 d] 24 (0, 0)) ∧ W.heap[w11.heap.size]? = some (.cells #[.int .i64 ga, .int .i64 gb, .int .i64 gc, .int .i64 gd] 24 (0, 0)) ∧ W.heap[w25.heap.size]? = some (.cells #[.int .i64 ha, .int .i64 hb, .int .i64 hc, .int .i64 hd] 24 (0, 0)) ∧ Below w3.heap.size w3 W ∧ Below w5.heap.size w5 W ∧ Below w13.heap.size w13 W ∧ Below w15.heap.size w15 W) (by refine ⟨?_, ?_, ?_, ?_, ?_, ?_, ?_, ?_⟩ <;> (repeat' first | (with_reducible first | assumption | (apply Ne.symm; assumption) | apply Nat.le_refl | apply Nat.le_add_right | apply zL | apply zRf | apply Wx.box | apply Wx.box4 | apply zWa | apply Wx.drew | apply zWn | apply bx_drew | apply bx_drewN | apply bx_set3 | apply bx_set2 | apply bx_set4 | apply bx_set1) | ((with_reducible apply bx_new); (focus (go_size; done))) | (with_reducible first | apply zOl | apply zFa | apply zDn | apply zDr | apply zAl | apply zSt | refine zVi (by assumption) ?_ ?_) | go_size | omega)) ?_
  clear k_F_27_0 k_F_27_1 k_F_27_2 k_F_27_3 f_F_27 H_F_27
  clear k_G_27_0 k_G_27_1 k_G_27_2 k_G_27_3 f_G_27 H_G_27
  clear k_H_27_0 k_H_27_1 k_H_27_2 k_H_27_3 f_H_27 H_H_27
  clear hB27
  rintro w28 ⟨hB28, H_F_28, H_G_28, H_H_28, HB3, HB5, HB13, HB15⟩
  obtain ⟨k_F_28_0, k_F_28_1, k_F_28_2, k_F_28_3, f_F_28, l_F_28⟩ := bk4 H_F_28
  replace H_F_28 := Lib.hid H_F_28
  obtain ⟨k_G_28_0, k_G_28_1, k_G_28_2, k_G_28_3, f_G_28, l_G_28⟩ := bk4 H_G_28
  replace H_G_28 := Lib.hid H_G_28
  obtain ⟨k_H_28_0, k_H_28_1, k_H_28_2, k_H_28_3, f_H_28, l_H_28⟩ := bk4 H_H_28
  replace H_H_28 := Lib.hid H_H_28
  clear sq3 sq5 sq13 sq15
  go_upto_region 18 with (first | (have _t := tok29; go_at_call 13; (with_reducible refine ((T29 _).out).mono ?_); rintro e w29 ⟨rfl, hb29⟩; clear tok29 _t; have hz29 := hb29.size; (try simp only [World.size_alloc, World.size_setCell, World.size_drew, World.size_drewN'] at hz29)))
  have H_F_29 := (hb29.block (w1.heap.size) (blk_lt' H_F_28.out)).trans H_F_28.out
  clear k_F_28_0 k_F_28_1 k_F_28_2 k_F_28_3 f_F_28 H_F_28
  obtain ⟨k_F_29_0, k_F_29_1, k_F_29_2, k_F_29_3, f_F_29, l_F_29⟩ := bk4 H_F_29
  replace H_F_29 := Lib.hid H_F_29
  have H_G_29 := (hb29.block (w11.heap.size) (blk_lt' H_G_28.out)).trans H_G_28.out
  clear k_G_28_0 k_G_28_1 k_G_28_2 k_G_28_3 f_G_28 H_G_28
  obtain ⟨k_G_29_0, k_G_29_1, k_G_29_2, k_G_29_3, f_G_29, l_G_29⟩ := bk4 H_G_29
  replace H_G_29 := Lib.hid H_G_29
  have H_H_29 := (hb29.block (w25.heap.size) (blk_lt' H_H_28.out)).trans H_H_28.out
  clear k_H_28_0 k_H_28_1 k_H_28_2 k_H_28_3 f_H_28 H_H_28
  obtain ⟨k_H_29_0, k_H_29_1, k_H_29_2, k_H_29_3, f_H_29, l_H_29⟩ := bk4 H_H_29
  replace H_H_29 := Lib.hid H_H_29
  have hB29 : Below w.heap.size w w29 := below_via hb29 (by assumption) (by first | exact hB28.size | go_size)
  have HB3 := HB3.trans (hb29.mono HB3.size)
  have sq3 := HB3.size
  have HB5 := HB5.trans (hb29.mono HB5.size)
  have sq5 := HB5.size
  have HB13 := HB13.trans (hb29.mono HB13.size)
  have sq13 := HB13.size
  have HB15 := HB15.trans (hb29.mono HB15.size)
  have sq15 := HB15.size
  clear hb29 T29
  replace H_F_29 := H_F_29.out
  replace H_G_29 := H_G_29.out
  replace H_H_29 := H_H_29.out
  refine chk (fun W => Below w.heap.size w W ∧ W.heap[w1.heap.size]? = some (.cells #[.int .i64 a, .int .i64 b, .int .i64 c, .int .i64 d] 24 (0, 0)) ∧ W.heap[w11.heap.size]? = some (.cells #[.int .i64 ga, .int .i64 gb, .int .i64 gc, .int .i64 gd] 24 (0, 0)) ∧ W.heap[w25.heap.size]? = some (.cells #[.int .i64 ha, .int .i64 hb, .int .i64 hc, .int .i64 hd] 24 (0, 0)) ∧ Below w3.heap.size w3 W ∧ Below w5.heap.size w5 W ∧ Below w13.heap.size w13 W ∧ Below w15.heap.size w15 W) (by refine ⟨?_, ?_, ?_, ?_, ?_, ?_, ?_, ?_⟩ <;> (repeat' first | (with_reducible first | assumption | (apply Ne.symm; assumption) | apply Nat.le_refl | apply Nat.le_add_right | apply zL | apply zRf | apply Wx.box | apply Wx.box4 | apply zWa | apply Wx.drew | apply zWn | apply bx_drew | apply bx_drewN | apply bx_set3 | apply bx_set2 | apply bx_set4 | apply bx_set1) | ((with_reducible apply bx_new); (focus (go_size; done))) | (with_reducible first | apply zOl | apply zFa | apply zDn | apply zDr | apply zAl | apply zSt | refine zVi (by assumption) ?_ ?_) | go_size | omega)) ?_
  clear k_F_29_0 k_F_29_1 k_F_29_2 k_F_29_3 f_F_29 H_F_29
  clear k_G_29_0 k_G_29_1 k_G_29_2 k_G_29_3 f_G_29 H_G_29
  clear k_H_29_0 k_H_29_1 k_H_29_2 k_H_29_3 f_H_29 H_H_29
  clear hB29
  rintro w30 ⟨hB30, H_F_30, H_G_30, H_H_30, HB3, HB5, HB13, HB15⟩
  obtain ⟨k_F_30_0, k_F_30_1, k_F_30_2, k_F_30_3, f_F_30, l_F_30⟩ := bk4 H_F_30
  replace H_F_30 := Lib.hid H_F_30
  obtain ⟨k_G_30_0, k_G_30_1, k_G_30_2, k_G_30_3, f_G_30, l_G_30⟩ := bk4 H_G_30
  replace H_G_30 := Lib.hid H_G_30
  obtain ⟨k_H_30_0, k_H_30_1, k_H_30_2, k_H_30_3, f_H_30, l_H_30⟩ := bk4 H_H_30
  replace H_H_30 := Lib.hid H_H_30
  clear sq3 sq5 sq13 sq15
  go_upto_region 19 with (first | (have _t := tok31; go_at_call 17; refine (DrawFactorOut_any (h2.below (by repeat' first | (with_reducible first | apply zRf | assumption | apply zDn | apply zDr | apply zAl | apply zSt | refine zVi (by assumption) ?_ ?_) | go_size))).mono ?_; rintro e w31 ⟨ua, ub, uc, ud, m, e, rfl, hb31⟩; clear tok31 _t; have hz31 := hb31.size; (try simp only [World.size_alloc, World.size_setCell, World.size_drew, World.size_drewN'] at hz31)))
  have H_F_31 := (hb31.block (w1.heap.size) (blk_lt' H_F_30.out)).trans H_F_30.out
  clear k_F_30_0 k_F_30_1 k_F_30_2 k_F_30_3 f_F_30 H_F_30
  obtain ⟨k_F_31_0, k_F_31_1, k_F_31_2, k_F_31_3, f_F_31, l_F_31⟩ := bk4 H_F_31
  replace H_F_31 := Lib.hid H_F_31
  have H_G_31 := (hb31.block (w11.heap.size) (blk_lt' H_G_30.out)).trans H_G_30.out
  clear k_G_30_0 k_G_30_1 k_G_30_2 k_G_30_3 f_G_30 H_G_30
  obtain ⟨k_G_31_0, k_G_31_1, k_G_31_2, k_G_31_3, f_G_31, l_G_31⟩ := bk4 H_G_31
  replace H_G_31 := Lib.hid H_G_31
  have H_H_31 := (hb31.block (w25.heap.size) (blk_lt' H_H_30.out)).trans H_H_30.out
  clear k_H_30_0 k_H_30_1 k_H_30_2 k_H_30_3 f_H_30 H_H_30
  obtain ⟨k_H_31_0, k_H_31_1, k_H_31_2, k_H_31_3, f_H_31, l_H_31⟩ := bk4 H_H_31
  replace H_H_31 := Lib.hid H_H_31
  have hB31 : Below w.heap.size w w31 := below_via hb31 (by assumption) (by first | exact hB30.size | go_size)
  have HB3 := HB3.trans (hb31.mono HB3.size)
  have sq3 := HB3.size
  have HB5 := HB5.trans (hb31.mono HB5.size)
  have sq5 := HB5.size
  have HB13 := HB13.trans (hb31.mono HB13.size)
  have sq13 := HB13.size
  have HB15 := HB15.trans (hb31.mono HB15.size)
  have sq15 := HB15.size
  clear hb31
  obtain ⟨X, Y, Z, o4, R33, R35, Fo⟩ := cr_set4 ua ub uc ud m e
  have T33 := fun W : World => Lib.hid (R33 W)
  have T35 := fun W : World => Lib.hid (R35 W)
  clear R33 R35
  replace Fo := Lib.hid Fo
  replace H_F_31 := H_F_31.out
  replace H_G_31 := H_G_31.out
  replace H_H_31 := H_H_31.out
  refine chk (fun W => Below w.heap.size w W ∧ W.heap[w1.heap.size]? = some (.cells #[.int .i64 a, .int .i64 b, .int .i64 c, .int .i64 d] 24 (0, 0)) ∧ W.heap[w11.heap.size]? = some (.cells #[.int .i64 ga, .int .i64 gb, .int .i64 gc, .int .i64 gd] 24 (0, 0)) ∧ W.heap[w25.heap.size]? = some (.cells #[.int .i64 ha, .int .i64 hb, .int .i64 hc, .int .i64 hd] 24 (0, 0)) ∧ W.heap[w31.heap.size]? = some (.cells #[.int .i64 ua, .int .i64 ub, .int .i64 uc, .int .i64 ud] 24 (0, 0)) ∧ W.heap[w31.heap.size + 1]? = some (.cells #[.int .i64 m, .int .i64 e] 37 (0, 0)) ∧ Below w3.heap.size w3 W ∧ Below w5.heap.size w5 W ∧ Below w13.heap.size w13 W ∧ Below w15.heap.size w15 W) (by refine ⟨?_, ?_, ?_, ?_, ?_, ?_, ?_, ?_, ?_, ?_⟩ <;> (repeat' first | (with_reducible first | assumption | (apply Ne.symm; assumption) | apply Nat.le_refl | apply Nat.le_add_right | apply zL | apply zRf | apply Wx.box | apply Wx.box4 | apply zWa | apply Wx.drew | apply zWn | apply bx_drew | apply bx_drewN | apply bx_set3 | apply bx_set2 | apply bx_set4 | apply bx_set1) | ((with_reducible apply bx_new); (focus (go_size; done))) | (with_reducible first | apply zOl | apply zFa | apply zDn | apply zDr | apply zAl | apply zSt | refine zVi (by assumption) ?_ ?_) | go_size | omega)) ?_
  clear k_F_31_0 k_F_31_1 k_F_31_2 k_F_31_3 f_F_31 H_F_31
  clear k_G_31_0 k_G_31_1 k_G_31_2 k_G_31_3 f_G_31 H_G_31
  clear k_H_31_0 k_H_31_1 k_H_31_2 k_H_31_3 f_H_31 H_H_31
  clear hB31
  rintro w32 ⟨hB32, H_F_32, H_G_32, H_H_32, H_U_32, H_V_32, HB3, HB5, HB13, HB15⟩
  obtain ⟨k_F_32_0, k_F_32_1, k_F_32_2, k_F_32_3, f_F_32, l_F_32⟩ := bk4 H_F_32
  replace H_F_32 := Lib.hid H_F_32
  obtain ⟨k_G_32_0, k_G_32_1, k_G_32_2, k_G_32_3, f_G_32, l_G_32⟩ := bk4 H_G_32
  replace H_G_32 := Lib.hid H_G_32
  obtain ⟨k_H_32_0, k_H_32_1, k_H_32_2, k_H_32_3, f_H_32, l_H_32⟩ := bk4 H_H_32
  replace H_H_32 := Lib.hid H_H_32
  obtain ⟨k_U_32_0, k_U_32_1, k_U_32_2, k_U_32_3, f_U_32, l_U_32⟩ := bk4 H_U_32
  replace H_U_32 := Lib.hid H_U_32
  obtain ⟨k_V_32_0, k_V_32_1, f_V_32, l_V_32⟩ := bk2 H_V_32
  replace H_V_32 := Lib.hid H_V_32
  clear sq3 sq5 sq13 sq15
  clear h2
  go_upto_region 20 with (first | (have _t := tok33; go_at_call 18; (with_reducible refine ((T33 _).out).mono ?_); rintro e w33 ⟨rfl, hb33⟩; clear tok33 _t; have hz33 := hb33.size; (try simp only [World.size_alloc, World.size_setCell, World.size_drew, World.size_drewN'] at hz33)))
  have H_F_33 := (hb33.block (w1.heap.size) (blk_lt' H_F_32.out)).trans H_F_32.out
  clear k_F_32_0 k_F_32_1 k_F_32_2 k_F_32_3 f_F_32 H_F_32
  obtain ⟨k_F_33_0, k_F_33_1, k_F_33_2, k_F_33_3, f_F_33, l_F_33⟩ := bk4 H_F_33
  replace H_F_33 := Lib.hid H_F_33
  have H_G_33 := (hb33.block (w11.heap.size) (blk_lt' H_G_32.out)).trans H_G_32.out
  clear k_G_32_0 k_G_32_1 k_G_32_2 k_G_32_3 f_G_32 H_G_32
  obtain ⟨k_G_33_0, k_G_33_1, k_G_33_2, k_G_33_3, f_G_33, l_G_33⟩ := bk4 H_G_33
  replace H_G_33 := Lib.hid H_G_33
  have H_H_33 := (hb33.block (w25.heap.size) (blk_lt' H_H_32.out)).trans H_H_32.out
  clear k_H_32_0 k_H_32_1 k_H_32_2 k_H_32_3 f_H_32 H_H_32
  obtain ⟨k_H_33_0, k_H_33_1, k_H_33_2, k_H_33_3, f_H_33, l_H_33⟩ := bk4 H_H_33
  replace H_H_33 := Lib.hid H_H_33
  have H_U_33 := (hb33.block (w31.heap.size) (blk_lt' H_U_32.out)).trans H_U_32.out
  clear k_U_32_0 k_U_32_1 k_U_32_2 k_U_32_3 f_U_32 H_U_32
  obtain ⟨k_U_33_0, k_U_33_1, k_U_33_2, k_U_33_3, f_U_33, l_U_33⟩ := bk4 H_U_33
  replace H_U_33 := Lib.hid H_U_33
  have H_V_33 := (hb33.block (w31.heap.size + 1) (blk_lt' H_V_32.out)).trans H_V_32.out
  clear k_V_32_0 k_V_32_1 f_V_32 H_V_32
  obtain ⟨k_V_33_0, k_V_33_1, f_V_33, l_V_33⟩ := bk2 H_V_33
  replace H_V_33 := Lib.hid H_V_33
  have hB33 : Below w.heap.size w w33 := below_via hb33 (by assumption) (by first | exact hB32.size | go_size)
  have HB3 := HB3.trans (hb33.mono HB3.size)
  have sq3 := HB3.size
  have HB5 := HB5.trans (hb33.mono HB5.size)
  have sq5 := HB5.size
  have HB13 := HB13.trans (hb33.mono HB13.size)
  have sq13 := HB13.size
  have HB15 := HB15.trans (hb33.mono HB15.size)
  have sq15 := HB15.size
  clear hb33 T33
  replace H_F_33 := H_F_33.out
  replace H_G_33 := H_G_33.out
  replace H_H_33 := H_H_33.out
  replace H_U_33 := H_U_33.out
  replace H_V_33 := H_V_33.out
  refine chk (fun W => Below w.heap.size w W ∧ W.heap[w1.heap.size]? = some (.cells #[.int .i64 a, .int .i64 b, .int .i64 c, .int .i64 d] 24 (0, 0)) ∧ W.heap[w11.heap.size]? = some (.cells #[.int .i64 ga, .int .i64 gb, .int .i64 gc, .int .i64 gd] 24 (0, 0)) ∧ W.heap[w25.heap.size]? = some (.cells #[.int .i64 ha, .int .i64 hb, .int .i64 hc, .int .i64 hd] 24 (0, 0)) ∧ W.heap[w31.heap.size]? = some (.cells #[.int .i64 ua, .int .i64 ub, .int .i64 uc, .int .i64 ud] 24 (0, 0)) ∧ W.heap[w31.heap.size + 1]? = some (.cells #[.int .i64 m, .int .i64 e] 37 (0, 0)) ∧ Below w3.heap.size w3 W ∧ Below w5.heap.size w5 W ∧ Below w13.heap.size w13 W ∧ Below w15.heap.size w15 W) (by refine ⟨?_, ?_, ?_, ?_, ?_, ?_, ?_, ?_, ?_, ?_⟩ <;> (repeat' first | (with_reducible first | assumption | (apply Ne.symm; assumption) | apply Nat.le_refl | apply Nat.le_add_right | apply zL | apply zRf | apply Wx.box | apply Wx.box4 | apply zWa | apply Wx.drew | apply zWn | apply bx_drew | apply bx_drewN | apply bx_set3 | apply bx_set2 | apply bx_set4 | apply bx_set1) | ((with_reducible apply bx_new); (focus (go_size; done))) | (with_reducible first | apply zOl | apply zFa | apply zDn | apply zDr | apply zAl | apply zSt | refine zVi (by assumption) ?_ ?_) | go_size | omega)) ?_
  clear k_F_33_0 k_F_33_1 k_F_33_2 k_F_33_3 f_F_33 H_F_33
  clear k_G_33_0 k_G_33_1 k_G_33_2 k_G_33_3 f_G_33 H_G_33
  clear k_H_33_0 k_H_33_1 k_H_33_2 k_H_33_3 f_H_33 H_H_33
  clear k_U_33_0 k_U_33_1 k_U_33_2 k_U_33_3 f_U_33 H_U_33
  clear k_V_33_0 k_V_33_1 f_V_33 H_V_33
  clear hB33
  rintro w34 ⟨hB34, H_F_34, H_G_34, H_H_34, H_U_34, H_V_34, HB3, HB5, HB13, HB15⟩
  obtain ⟨k_F_34_0, k_F_34_1, k_F_34_2, k_F_34_3, f_F_34, l_F_34⟩ := bk4 H_F_34
  replace H_F_34 := Lib.hid H_F_34
  obtain ⟨k_G_34_0, k_G_34_1, k_G_34_2, k_G_34_3, f_G_34, l_G_34⟩ := bk4 H_G_34
  replace H_G_34 := Lib.hid H_G_34
  obtain ⟨k_H_34_0, k_H_34_1, k_H_34_2, k_H_34_3, f_H_34, l_H_34⟩ := bk4 H_H_34
  replace H_H_34 := Lib.hid H_H_34
  obtain ⟨k_U_34_0, k_U_34_1, k_U_34_2, k_U_34_3, f_U_34, l_U_34⟩ := bk4 H_U_34
  replace H_U_34 := Lib.hid H_U_34
  obtain ⟨k_V_34_0, k_V_34_1, f_V_34, l_V_34⟩ := bk2 H_V_34
  replace H_V_34 := Lib.hid H_V_34
  clear sq3 sq5 sq13 sq15
  go_upto_region 21 with (first | (have _t := tok35; go_at_call 19; (with_reducible refine ((T35 _).out).mono ?_); rintro e w35 ⟨rfl, hb35⟩; clear tok35 _t; have hz35 := hb35.size; (try simp only [World.size_alloc, World.size_setCell, World.size_drew, World.size_drewN'] at hz35)))
  have H_F_35 := (hb35.block (w1.heap.size) (blk_lt' H_F_34.out)).trans H_F_34.out
  clear k_F_34_0 k_F_34_1 k_F_34_2 k_F_34_3 f_F_34 H_F_34
  obtain ⟨k_F_35_0, k_F_35_1, k_F_35_2, k_F_35_3, f_F_35, l_F_35⟩ := bk4 H_F_35
  replace H_F_35 := Lib.hid H_F_35
  have H_G_35 := (hb35.block (w11.heap.size) (blk_lt' H_G_34.out)).trans H_G_34.out
  clear k_G_34_0 k_G_34_1 k_G_34_2 k_G_34_3 f_G_34 H_G_34
  obtain ⟨k_G_35_0, k_G_35_1, k_G_35_2, k_G_35_3, f_G_35, l_G_35⟩ := bk4 H_G_35
  replace H_G_35 := Lib.hid H_G_35
  have H_H_35 := (hb35.block (w25.heap.size) (blk_lt' H_H_34.out)).trans H_H_34.out
  clear k_H_34_0 k_H_34_1 k_H_34_2 k_H_34_3 f_H_34 H_H_34
  obtain ⟨k_H_35_0, k_H_35_1, k_H_35_2, k_H_35_3, f_H_35, l_H_35⟩ := bk4 H_H_35
  replace H_H_35 := Lib.hid H_H_35
  have H_U_35 := (hb35.block (w31.heap.size) (blk_lt' H_U_34.out)).trans H_U_34.out
  clear k_U_34_0 k_U_34_1 k_U_34_2 k_U_34_3 f_U_34 H_U_34
  obtain ⟨k_U_35_0, k_U_35_1, k_U_35_2, k_U_35_3, f_U_35, l_U_35⟩ := bk4 H_U_35
  replace H_U_35 := Lib.hid H_U_35
  have H_V_35 := (hb35.block (w31.heap.size + 1) (blk_lt' H_V_34.out)).trans H_V_34.out
  clear k_V_34_0 k_V_34_1 f_V_34 H_V_34
  obtain ⟨k_V_35_0, k_V_35_1, f_V_35, l_V_35⟩ := bk2 H_V_35
  replace H_V_35 := Lib.hid H_V_35
  have hB35 : Below w.heap.size w w35 := below_via hb35 (by assumption) (by first | exact hB34.size | go_size)
  have HB3 := HB3.trans (hb35.mono HB3.size)
  have sq3 := HB3.size
  have HB5 := HB5.trans (hb35.mono HB5.size)
  have sq5 := HB5.size
  have HB13 := HB13.trans (hb35.mono HB13.size)
  have sq13 := HB13.size
  have HB15 := HB15.trans (hb35.mono HB15.size)
  have sq15 := HB15.size
  clear hb35 T35
  replace H_F_35 := H_F_35.out
  replace H_G_35 := H_G_35.out
  replace H_H_35 := H_H_35.out
  replace H_U_35 := H_U_35.out
  replace H_V_35 := H_V_35.out
  refine chk (fun W => Below w.heap.size w W ∧ W.heap[w1.heap.size]? = some (.cells #[.int .i64 a, .int .i64 b, .int .i64 c, .int .i64 d] 24 (0, 0)) ∧ W.heap[w11.heap.size]? = some (.cells #[.int .i64 ga, .int .i64 gb, .int .i64 gc, .int .i64 gd] 24 (0, 0)) ∧ W.heap[w25.heap.size]? = some (.cells #[.int .i64 ha, .int .i64 hb, .int .i64 hc, .int .i64 hd] 24 (0, 0)) ∧ W.heap[w31.heap.size]? = some (.cells #[.int .i64 ua, .int .i64 ub, .int .i64 uc, .int .i64 ud] 24 (0, 0)) ∧ W.heap[w31.heap.size + 1]? = some (.cells #[.int .i64 m, .int .i64 e] 37 (0, 0)) ∧ Below w3.heap.size w3 W ∧ Below w5.heap.size w5 W ∧ Below w13.heap.size w13 W ∧ Below w15.heap.size w15 W) (by refine ⟨?_, ?_, ?_, ?_, ?_, ?_, ?_, ?_, ?_, ?_⟩ <;> (repeat' first | (with_reducible first | assumption | (apply Ne.symm; assumption) | apply Nat.le_refl | apply Nat.le_add_right | apply zL | apply zRf | apply Wx.box | apply Wx.box4 | apply zWa | apply Wx.drew | apply zWn | apply bx_drew | apply bx_drewN | apply bx_set3 | apply bx_set2 | apply bx_set4 | apply bx_set1) | ((with_reducible apply bx_new); (focus (go_size; done))) | (with_reducible first | apply zOl | apply zFa | apply zDn | apply zDr | apply zAl | apply zSt | refine zVi (by assumption) ?_ ?_) | go_size | omega)) ?_
  clear k_F_35_0 k_F_35_1 k_F_35_2 k_F_35_3 f_F_35 H_F_35
  clear k_G_35_0 k_G_35_1 k_G_35_2 k_G_35_3 f_G_35 H_G_35
  clear k_H_35_0 k_H_35_1 k_H_35_2 k_H_35_3 f_H_35 H_H_35
  clear k_U_35_0 k_U_35_1 k_U_35_2 k_U_35_3 f_U_35 H_U_35
  clear k_V_35_0 k_V_35_1 f_V_35 H_V_35
  clear hB35
  rintro w36 ⟨hB36, H_F_36, H_G_36, H_H_36, H_U_36, H_V_36, HB3, HB5, HB13, HB15⟩
  obtain ⟨k_F_36_0, k_F_36_1, k_F_36_2, k_F_36_3, f_F_36, l_F_36⟩ := bk4 H_F_36
  replace H_F_36 := Lib.hid H_F_36
  obtain ⟨k_G_36_0, k_G_36_1, k_G_36_2, k_G_36_3, f_G_36, l_G_36⟩ := bk4 H_G_36
  replace H_G_36 := Lib.hid H_G_36
  obtain ⟨k_H_36_0, k_H_36_1, k_H_36_2, k_H_36_3, f_H_36, l_H_36⟩ := bk4 H_H_36
  replace H_H_36 := Lib.hid H_H_36
  obtain ⟨k_U_36_0, k_U_36_1, k_U_36_2, k_U_36_3, f_U_36, l_U_36⟩ := bk4 H_U_36
  replace H_U_36 := Lib.hid H_U_36
  obtain ⟨k_V_36_0, k_V_36_1, f_V_36, l_V_36⟩ := bk2 H_V_36
  replace H_V_36 := Lib.hid H_V_36
  clear sq3 sq5 sq13 sq15
  have TF := fun (W : World) (hW : Below w36.heap.size w36 W) => Lib.hid (qFractions_same (c1 := c6) (c2 := c8) hz hn ((hq3.out.step HB3).step hW) ((hq5.out.step HB5).step hW))
  have TI := fun (W : World) (hW : Below w36.heap.size w36 W) => Lib.hid (qInts_same ((hq13.out.below HB13).below hW) ((hq15.out.below HB15).below hW))
  have e0 : (o != o) = false := by simp
  have e1 : (o3 != o3) = false := by simp
  have e2 : (o4 != o4) = false := by simp
  have e3 : (o5 != o5) = false := by simp
  have e4 : (ir != ir) = false := by simp
  have v0 : (N != N) = false := by simp
  have v1 : (D != D) = false := by simp
  have v2 : (M != M) = false := by simp
  have v3 : (X != X) = false := by simp
  have v4 : (Y != Y) = false := by simp
  have v5 : (Z != Z) = false := by simp
  go_cut [237] (fun sq wx => sq = .bool false ∧ Below w36.heap.size w36 wx)
  case first =>
    as_aux_lemma =>
      clear Fk Fc Fo
      go_wp2_with (first | (first | (have _t := tok37; go_at_call 20; (with_reducible refine ((TF _ (by repeat' first | (with_reducible first | apply zRf | assumption | apply zDn | apply zDr | apply zAl | apply zSt | refine zVi (by assumption) ?_ ?_) | go_size)).out).mono ?_); rintro e w37 ⟨rfl, hb37⟩; clear tok37 _t; have hz37 := hb37.size; (try simp only [World.size_alloc, World.size_setCell, World.size_drew, World.size_drewN'] at hz37)) | (have _t := tok38; go_at_call 21; (with_reducible refine ((TI _ (by repeat' first | (with_reducible first | apply zRf | assumption | apply zDn | apply zDr | apply zAl | apply zSt | refine zVi (by assumption) ?_ ?_) | go_size)).out).mono ?_); rintro e w38 ⟨rfl, hb38⟩; clear tok38 _t; have hz38 := hb38.size; (try simp only [World.size_alloc, World.size_setCell, World.size_drew, World.size_drewN'] at hz38))))
      go_meet
      exact ⟨rfl, by repeat' first | (with_reducible first | apply zRf | assumption | apply zDn | apply zDr | apply zAl | apply zSt | refine zVi (by assumption) ?_ ?_) | go_size⟩
  case rest =>
    obtain ⟨rfl, hb39⟩ := hcut
    generalize wc = w39 at *
    clear TF TI e0 e1 e2 e3 e4 v0 v1 v2 v3 v4 v5
    have HQ5 := (hq5.out.step HB5).step hb39
    clear k_G_36_0
    clear k_G_36_1
    clear k_G_36_2
    clear k_G_36_3
    clear f_G_36 H_G_36
    clear k_H_36_0
    clear k_H_36_1
    clear k_H_36_2
    clear k_H_36_3
    clear f_H_36 H_H_36
    have H_F_39 := (hb39.block (w1.heap.size) (blk_lt' H_F_36.out)).trans H_F_36.out
    clear k_F_36_0 k_F_36_1 k_F_36_2 k_F_36_3 f_F_36 H_F_36
    obtain ⟨k_F_39_0, k_F_39_1, k_F_39_2, k_F_39_3, f_F_39, l_F_39⟩ := bk4 H_F_39
    replace H_F_39 := Lib.hid H_F_39
    have H_U_39 := (hb39.block (w31.heap.size) (blk_lt' H_U_36.out)).trans H_U_36.out
    clear k_U_36_0 k_U_36_1 k_U_36_2 k_U_36_3 f_U_36 H_U_36
    obtain ⟨k_U_39_0, k_U_39_1, k_U_39_2, k_U_39_3, f_U_39, l_U_39⟩ := bk4 H_U_39
    replace H_U_39 := Lib.hid H_U_39
    have H_V_39 := (hb39.block (w31.heap.size + 1) (blk_lt' H_V_36.out)).trans H_V_36.out
    clear k_V_36_0 k_V_36_1 f_V_36 H_V_36
    obtain ⟨k_V_39_0, k_V_39_1, f_V_39, l_V_39⟩ := bk2 H_V_39
    replace H_V_39 := Lib.hid H_V_39
    have hB39 : Below w.heap.size w w39 := below_via hb39 (by assumption) (by first | exact hB36.size | go_size)
    iterate 60 (first | (exact FnCr_23 hB39 H_F_39.out H_U_39.out H_V_39.out hC hz HQ5 Fk.out Fo.out Fc.out) | go_values | go_skip | go_guarded | go_step | go_upon | go_back | skip)
end Go.Proofs.Ytldonmcbnhgbdaa
