/- FnLocalPairs: the walk of the law. -/
import Derived.Test.YtegiddpakocodaaLpc
import Derived.Test.YtegiddpakocodaaQd9
import Derived.Test.YtegiddpakocodaaOpen9
namespace Go.Proofs.Ytegiddpakocodaa
open Go.RowKit
set_option linter.unusedVariables false
set_option maxHeartbeats 0
set_option maxRecDepth 20000
set_option linter.unusedSimpArgs false

theorem FnLocalPairs_any {s1 s2 : Option Addr} {m1 c1 m2 c2 : Nat} (w : World) (h1 : ByW w s1 m1) (h2 : ByW w s2 m2) : Calls Try.prog 3 #[.slice s1 m1 c1, .slice s2 m2 c2] w fun e w' => e = .returned (.bool true) ∧ Below w.heap.size w w' := by
  by_cases hbig : (1048576 : Int) < wrap64 ((m1 : Int) + m2)
  · go_enter Try.func3, Try.ntmps3
    go_wp2_with fail
    go_ret
    refine ⟨rfl, ?_⟩
    repeat' first | (with_reducible first | apply zRf | assumption | apply zDn | apply zDr | apply zAl | apply zSt | refine zVi (by assumption) ?_ ?_) | go_size
  have tok1 : True := trivial
  have tok2 : True := trivial
  have tok3 : True := trivial
  have tok4 : True := trivial
  have tok5 : True := trivial
  have tok6 : True := trivial
  have tok7 : True := trivial
  have tok8 : True := trivial
  have tok9 : True := trivial
  have tok10 : True := trivial
  have tok11 : True := trivial
  have tok12 : True := trivial
  have tok13 : True := trivial
  have tok14 : True := trivial
  have tok15 : True := trivial
  have tok16 : True := trivial
  have tok17 : True := trivial
  have tok18 : True := trivial
  have tok19 : True := trivial
  have tok20 : True := trivial
  have tok21 : True := trivial
  have tok22 : True := trivial
  have tok23 : True := trivial
  have tok24 : True := trivial
  have tok25 : True := trivial
  have tok26 : True := trivial
  have tok27 : True := trivial
  have tok28 : True := trivial
  have tok29 : True := trivial
  have tok30 : True := trivial
  have tok31 : True := trivial
  go_enter Try.func3, Try.ntmps3
  go_upto_region 4 with (first | (have _t := tok1; go_at_call 4; refine (DrawLocalPair_any (h1.below (by repeat' first | (with_reducible first | apply zRf | assumption | apply zDn | apply zDr | apply zAl | apply zSt | refine zVi (by assumption) ?_ ?_) | go_size))).mono ?_; rintro e w1 ⟨D, A, C, p, rfl, hpb, hb1⟩; clear tok1 _t; have hz1 := hb1.size; (try simp only [World.size_alloc, World.size_setCell, World.size_drew, World.size_drewN'] at hz1)))
  obtain ⟨M, E, K, ok, told, most, o9, R3, R5, R7, R9, R29, R31, Ft, Fl, Fc⟩ := lp_set1 D A C p
  have T3 := fun W : World => Lib.hid (R3 W)
  have T5 := fun W : World => Lib.hid (R5 W)
  have T7 := fun W : World => Lib.hid (R7 W)
  have T9 := fun W : World => Lib.hid (R9 W)
  have T29 := fun W : World => Lib.hid (R29 W)
  have T31 := fun W : World => Lib.hid (R31 W)
  clear R3 R5 R7 R9 R29 R31
  replace Ft := Lib.hid Ft
  replace Fl := Lib.hid Fl
  replace Fc := Lib.hid Fc
  refine chk (fun W => Below w.heap.size w W ∧ W.heap[w1.heap.size]? = some (.cells #[.int .i64 D, .int .i64 A, .int .i64 C] 24 (0, 0))) (by refine ⟨?_, ?_⟩ <;> (repeat' first | (with_reducible first | assumption | (apply Ne.symm; assumption) | apply Nat.le_refl | apply Nat.le_add_right | apply zL | apply zRf | apply Wx.box | apply Wx.box4 | apply zWa | apply Wx.drew | apply zWn | apply bx_drew | apply bx_drewN | apply bx_set3 | apply bx_set2 | apply bx_set4 | apply bx_set1) | ((with_reducible apply bx_new); (focus (go_size; done))) | (with_reducible first | apply zOl | apply zFa | apply zDn | apply zDr | apply zAl | apply zSt | refine zVi (by assumption) ?_ ?_) | go_size | omega)) ?_
  rintro w2 ⟨hB2, H_F_2⟩
  obtain ⟨k_F_2_0, k_F_2_1, k_F_2_2, f_F_2, l_F_2⟩ := bk3 H_F_2
  replace H_F_2 := Lib.hid H_F_2
  clear hb1 h1 hbig hpb
  go_upto_region 5 with (first | (have _t := tok3; go_at_call 5; (with_reducible refine ((T3 _).out).mono ?_); rintro e w3 ⟨rfl, hb3⟩; clear tok3 _t; have hz3 := hb3.size; (try simp only [World.size_alloc, World.size_setCell, World.size_drew, World.size_drewN'] at hz3)))
  have H_F_3 := (hb3.block (w1.heap.size) (blk_lt' H_F_2.out)).trans H_F_2.out
  clear k_F_2_0 k_F_2_1 k_F_2_2 f_F_2 H_F_2
  obtain ⟨k_F_3_0, k_F_3_1, k_F_3_2, f_F_3, l_F_3⟩ := bk3 H_F_3
  replace H_F_3 := Lib.hid H_F_3
  have hB3 : Below w.heap.size w w3 := below_via hb3 (by assumption) (by first | exact hB2.size | go_size)
  clear hb3 T3
  replace H_F_3 := H_F_3.out
  refine chk (fun W => Below w.heap.size w W ∧ W.heap[w1.heap.size]? = some (.cells #[.int .i64 D, .int .i64 A, .int .i64 C] 24 (0, 0))) (by refine ⟨?_, ?_⟩ <;> (repeat' first | (with_reducible first | assumption | (apply Ne.symm; assumption) | apply Nat.le_refl | apply Nat.le_add_right | apply zL | apply zRf | apply Wx.box | apply Wx.box4 | apply zWa | apply Wx.drew | apply zWn | apply bx_drew | apply bx_drewN | apply bx_set3 | apply bx_set2 | apply bx_set4 | apply bx_set1) | ((with_reducible apply bx_new); (focus (go_size; done))) | (with_reducible first | apply zOl | apply zFa | apply zDn | apply zDr | apply zAl | apply zSt | refine zVi (by assumption) ?_ ?_) | go_size | omega)) ?_
  clear k_F_3_0 k_F_3_1 k_F_3_2 f_F_3 H_F_3
  clear hB3
  rintro w4 ⟨hB4, H_F_4⟩
  obtain ⟨k_F_4_0, k_F_4_1, k_F_4_2, f_F_4, l_F_4⟩ := bk3 H_F_4
  replace H_F_4 := Lib.hid H_F_4
  go_upto_region 6 with (first | (have _t := tok5; go_at_call 6; (with_reducible refine ((T5 _).out).mono ?_); rintro e w5 ⟨rfl, hb5⟩; clear tok5 _t; have hz5 := hb5.size; (try simp only [World.size_alloc, World.size_setCell, World.size_drew, World.size_drewN'] at hz5)))
  have H_F_5 := (hb5.block (w1.heap.size) (blk_lt' H_F_4.out)).trans H_F_4.out
  clear k_F_4_0 k_F_4_1 k_F_4_2 f_F_4 H_F_4
  obtain ⟨k_F_5_0, k_F_5_1, k_F_5_2, f_F_5, l_F_5⟩ := bk3 H_F_5
  replace H_F_5 := Lib.hid H_F_5
  have hB5 : Below w.heap.size w w5 := below_via hb5 (by assumption) (by first | exact hB4.size | go_size)
  clear hb5 T5
  replace H_F_5 := H_F_5.out
  refine chk (fun W => Below w.heap.size w W ∧ W.heap[w1.heap.size]? = some (.cells #[.int .i64 D, .int .i64 A, .int .i64 C] 24 (0, 0))) (by refine ⟨?_, ?_⟩ <;> (repeat' first | (with_reducible first | assumption | (apply Ne.symm; assumption) | apply Nat.le_refl | apply Nat.le_add_right | apply zL | apply zRf | apply Wx.box | apply Wx.box4 | apply zWa | apply Wx.drew | apply zWn | apply bx_drew | apply bx_drewN | apply bx_set3 | apply bx_set2 | apply bx_set4 | apply bx_set1) | ((with_reducible apply bx_new); (focus (go_size; done))) | (with_reducible first | apply zOl | apply zFa | apply zDn | apply zDr | apply zAl | apply zSt | refine zVi (by assumption) ?_ ?_) | go_size | omega)) ?_
  clear k_F_5_0 k_F_5_1 k_F_5_2 f_F_5 H_F_5
  clear hB5
  rintro w6 ⟨hB6, H_F_6⟩
  obtain ⟨k_F_6_0, k_F_6_1, k_F_6_2, f_F_6, l_F_6⟩ := bk3 H_F_6
  replace H_F_6 := Lib.hid H_F_6
  go_upto_region 7 with (first | (have _t := tok7; go_at_call 7; (with_reducible refine ((T7 _).out).mono ?_); rintro e w7 ⟨rfl, hb7⟩; clear tok7 _t; have hz7 := hb7.size; (try simp only [World.size_alloc, World.size_setCell, World.size_drew, World.size_drewN'] at hz7)))
  have H_F_7 := (hb7.block (w1.heap.size) (blk_lt' H_F_6.out)).trans H_F_6.out
  clear k_F_6_0 k_F_6_1 k_F_6_2 f_F_6 H_F_6
  obtain ⟨k_F_7_0, k_F_7_1, k_F_7_2, f_F_7, l_F_7⟩ := bk3 H_F_7
  replace H_F_7 := Lib.hid H_F_7
  have hB7 : Below w.heap.size w w7 := below_via hb7 (by assumption) (by first | exact hB6.size | go_size)
  clear hb7 T7
  replace H_F_7 := H_F_7.out
  refine chk (fun W => Below w.heap.size w W ∧ W.heap[w1.heap.size]? = some (.cells #[.int .i64 D, .int .i64 A, .int .i64 C] 24 (0, 0))) (by refine ⟨?_, ?_⟩ <;> (repeat' first | (with_reducible first | assumption | (apply Ne.symm; assumption) | apply Nat.le_refl | apply Nat.le_add_right | apply zL | apply zRf | apply Wx.box | apply Wx.box4 | apply zWa | apply Wx.drew | apply zWn | apply bx_drew | apply bx_drewN | apply bx_set3 | apply bx_set2 | apply bx_set4 | apply bx_set1) | ((with_reducible apply bx_new); (focus (go_size; done))) | (with_reducible first | apply zOl | apply zFa | apply zDn | apply zDr | apply zAl | apply zSt | refine zVi (by assumption) ?_ ?_) | go_size | omega)) ?_
  clear k_F_7_0 k_F_7_1 k_F_7_2 f_F_7 H_F_7
  clear hB7
  rintro w8 ⟨hB8, H_F_8⟩
  obtain ⟨k_F_8_0, k_F_8_1, k_F_8_2, f_F_8, l_F_8⟩ := bk3 H_F_8
  replace H_F_8 := Lib.hid H_F_8
  go_upto_region 8 with (first | (have _t := tok9; go_at_call 8; (with_reducible refine ((T9 _).out).mono ?_); rintro e w9 ⟨rfl, hb9⟩; clear tok9 _t; have hz9 := hb9.size; (try simp only [World.size_alloc, World.size_setCell, World.size_drew, World.size_drewN'] at hz9)))
  have H_F_9 := (hb9.block (w1.heap.size) (blk_lt' H_F_8.out)).trans H_F_8.out
  clear k_F_8_0 k_F_8_1 k_F_8_2 f_F_8 H_F_8
  obtain ⟨k_F_9_0, k_F_9_1, k_F_9_2, f_F_9, l_F_9⟩ := bk3 H_F_9
  replace H_F_9 := Lib.hid H_F_9
  have hB9 : Below w.heap.size w w9 := below_via hb9 (by assumption) (by first | exact hB8.size | go_size)
  clear hb9 T9
  replace H_F_9 := H_F_9.out
  refine chk (fun W => Below w.heap.size w W ∧ W.heap[w1.heap.size]? = some (.cells #[.int .i64 D, .int .i64 A, .int .i64 C] 24 (0, 0))) (by refine ⟨?_, ?_⟩ <;> (repeat' first | (with_reducible first | assumption | (apply Ne.symm; assumption) | apply Nat.le_refl | apply Nat.le_add_right | apply zL | apply zRf | apply Wx.box | apply Wx.box4 | apply zWa | apply Wx.drew | apply zWn | apply bx_drew | apply bx_drewN | apply bx_set3 | apply bx_set2 | apply bx_set4 | apply bx_set1) | ((with_reducible apply bx_new); (focus (go_size; done))) | (with_reducible first | apply zOl | apply zFa | apply zDn | apply zDr | apply zAl | apply zSt | refine zVi (by assumption) ?_ ?_) | go_size | omega)) ?_
  clear k_F_9_0 k_F_9_1 k_F_9_2 f_F_9 H_F_9
  clear hB9
  rintro w10 ⟨hB10, H_F_10⟩
  obtain ⟨k_F_10_0, k_F_10_1, k_F_10_2, f_F_10, l_F_10⟩ := bk3 H_F_10
  replace H_F_10 := Lib.hid H_F_10
  go_upto_region 9 with (first | (have _t := tok11; go_at_call 9; refine (DrawLiftsModulo_any (h2.below (by repeat' first | (with_reducible first | apply zRf | assumption | apply zDn | apply zDr | apply zAl | apply zSt | refine zVi (by assumption) ?_ ?_) | go_size))).mono ?_; rintro e w11 ⟨hd, ha, hc, lm, le, lp, lk, rfl, hb11⟩; clear tok11 _t; have hz11 := hb11.size; (try simp only [World.size_alloc, World.size_setCell, World.size_drew, World.size_drewN'] at hz11)))
  have H_F_11 := (hb11.block (w1.heap.size) (blk_lt' H_F_10.out)).trans H_F_10.out
  clear k_F_10_0 k_F_10_1 k_F_10_2 f_F_10 H_F_10
  obtain ⟨k_F_11_0, k_F_11_1, k_F_11_2, f_F_11, l_F_11⟩ := bk3 H_F_11
  replace H_F_11 := Lib.hid H_F_11
  have hB11 : Below w.heap.size w w11 := below_via hb11 (by assumption) (by first | exact hB10.size | go_size)
  clear hb11
  obtain ⟨ll, o3, R13, R15⟩ := lp_set2 hd ha hc lm le lp lk
  have T13 := fun W : World => Lib.hid (R13 W)
  have T15 := fun W : World => Lib.hid (R15 W)
  clear R13 R15
  replace H_F_11 := H_F_11.out
  refine chk (fun W => Below w.heap.size w W ∧ W.heap[w1.heap.size]? = some (.cells #[.int .i64 D, .int .i64 A, .int .i64 C] 24 (0, 0)) ∧ W.heap[w11.heap.size]? = some (.cells #[.int .i64 hd, .int .i64 ha, .int .i64 hc] 24 (0, 0))) (by refine ⟨?_, ?_, ?_⟩ <;> (repeat' first | (with_reducible first | assumption | (apply Ne.symm; assumption) | apply Nat.le_refl | apply Nat.le_add_right | apply zL | apply zRf | apply Wx.box | apply Wx.box4 | apply zWa | apply Wx.drew | apply zWn | apply bx_drew | apply bx_drewN | apply bx_set3 | apply bx_set2 | apply bx_set4 | apply bx_set1) | ((with_reducible apply bx_new); (focus (go_size; done))) | (with_reducible first | apply zOl | apply zFa | apply zDn | apply zDr | apply zAl | apply zSt | refine zVi (by assumption) ?_ ?_) | go_size | omega)) ?_
  clear k_F_11_0 k_F_11_1 k_F_11_2 f_F_11 H_F_11
  clear hB11
  rintro w12 ⟨hB12, H_F_12, H_H_12⟩
  obtain ⟨k_F_12_0, k_F_12_1, k_F_12_2, f_F_12, l_F_12⟩ := bk3 H_F_12
  replace H_F_12 := Lib.hid H_F_12
  obtain ⟨k_H_12_0, k_H_12_1, k_H_12_2, f_H_12, l_H_12⟩ := bk3 H_H_12
  replace H_H_12 := Lib.hid H_H_12
  go_upto_region 10 with (first | (have _t := tok13; go_at_call 10; (with_reducible refine ((T13 _).out).mono ?_); rintro e w13 ⟨rfl, hb13⟩; clear tok13 _t; have hz13 := hb13.size; (try simp only [World.size_alloc, World.size_setCell, World.size_drew, World.size_drewN'] at hz13)))
  have H_F_13 := (hb13.block (w1.heap.size) (blk_lt' H_F_12.out)).trans H_F_12.out
  clear k_F_12_0 k_F_12_1 k_F_12_2 f_F_12 H_F_12
  obtain ⟨k_F_13_0, k_F_13_1, k_F_13_2, f_F_13, l_F_13⟩ := bk3 H_F_13
  replace H_F_13 := Lib.hid H_F_13
  have H_H_13 := (hb13.block (w11.heap.size) (blk_lt' H_H_12.out)).trans H_H_12.out
  clear k_H_12_0 k_H_12_1 k_H_12_2 f_H_12 H_H_12
  obtain ⟨k_H_13_0, k_H_13_1, k_H_13_2, f_H_13, l_H_13⟩ := bk3 H_H_13
  replace H_H_13 := Lib.hid H_H_13
  have hB13 : Below w.heap.size w w13 := below_via hb13 (by assumption) (by first | exact hB12.size | go_size)
  clear hb13 T13
  replace H_F_13 := H_F_13.out
  replace H_H_13 := H_H_13.out
  refine chk (fun W => Below w.heap.size w W ∧ W.heap[w1.heap.size]? = some (.cells #[.int .i64 D, .int .i64 A, .int .i64 C] 24 (0, 0)) ∧ W.heap[w11.heap.size]? = some (.cells #[.int .i64 hd, .int .i64 ha, .int .i64 hc] 24 (0, 0))) (by refine ⟨?_, ?_, ?_⟩ <;> (repeat' first | (with_reducible first | assumption | (apply Ne.symm; assumption) | apply Nat.le_refl | apply Nat.le_add_right | apply zL | apply zRf | apply Wx.box | apply Wx.box4 | apply zWa | apply Wx.drew | apply zWn | apply bx_drew | apply bx_drewN | apply bx_set3 | apply bx_set2 | apply bx_set4 | apply bx_set1) | ((with_reducible apply bx_new); (focus (go_size; done))) | (with_reducible first | apply zOl | apply zFa | apply zDn | apply zDr | apply zAl | apply zSt | refine zVi (by assumption) ?_ ?_) | go_size | omega)) ?_
  clear k_F_13_0 k_F_13_1 k_F_13_2 f_F_13 H_F_13
  clear k_H_13_0 k_H_13_1 k_H_13_2 f_H_13 H_H_13
  clear hB13
  rintro w14 ⟨hB14, H_F_14, H_H_14⟩
  obtain ⟨k_F_14_0, k_F_14_1, k_F_14_2, f_F_14, l_F_14⟩ := bk3 H_F_14
  replace H_F_14 := Lib.hid H_F_14
  obtain ⟨k_H_14_0, k_H_14_1, k_H_14_2, f_H_14, l_H_14⟩ := bk3 H_H_14
  replace H_H_14 := Lib.hid H_H_14
  go_upto_region 11 with (first | (have _t := tok15; go_at_call 11; (with_reducible refine ((T15 _).out).mono ?_); rintro e w15 ⟨rfl, hb15⟩; clear tok15 _t; have hz15 := hb15.size; (try simp only [World.size_alloc, World.size_setCell, World.size_drew, World.size_drewN'] at hz15)))
  have H_F_15 := (hb15.block (w1.heap.size) (blk_lt' H_F_14.out)).trans H_F_14.out
  clear k_F_14_0 k_F_14_1 k_F_14_2 f_F_14 H_F_14
  obtain ⟨k_F_15_0, k_F_15_1, k_F_15_2, f_F_15, l_F_15⟩ := bk3 H_F_15
  replace H_F_15 := Lib.hid H_F_15
  have H_H_15 := (hb15.block (w11.heap.size) (blk_lt' H_H_14.out)).trans H_H_14.out
  clear k_H_14_0 k_H_14_1 k_H_14_2 f_H_14 H_H_14
  obtain ⟨k_H_15_0, k_H_15_1, k_H_15_2, f_H_15, l_H_15⟩ := bk3 H_H_15
  replace H_H_15 := Lib.hid H_H_15
  have hB15 : Below w.heap.size w w15 := below_via hb15 (by assumption) (by first | exact hB14.size | go_size)
  clear hb15 T15
  replace H_F_15 := H_F_15.out
  replace H_H_15 := H_H_15.out
  refine chk (fun W => Below w.heap.size w W ∧ W.heap[w1.heap.size]? = some (.cells #[.int .i64 D, .int .i64 A, .int .i64 C] 24 (0, 0)) ∧ W.heap[w11.heap.size]? = some (.cells #[.int .i64 hd, .int .i64 ha, .int .i64 hc] 24 (0, 0))) (by refine ⟨?_, ?_, ?_⟩ <;> (repeat' first | (with_reducible first | assumption | (apply Ne.symm; assumption) | apply Nat.le_refl | apply Nat.le_add_right | apply zL | apply zRf | apply Wx.box | apply Wx.box4 | apply zWa | apply Wx.drew | apply zWn | apply bx_drew | apply bx_drewN | apply bx_set3 | apply bx_set2 | apply bx_set4 | apply bx_set1) | ((with_reducible apply bx_new); (focus (go_size; done))) | (with_reducible first | apply zOl | apply zFa | apply zDn | apply zDr | apply zAl | apply zSt | refine zVi (by assumption) ?_ ?_) | go_size | omega)) ?_
  clear k_F_15_0 k_F_15_1 k_F_15_2 f_F_15 H_F_15
  clear k_H_15_0 k_H_15_1 k_H_15_2 f_H_15 H_H_15
  clear hB15
  rintro w16 ⟨hB16, H_F_16, H_H_16⟩
  obtain ⟨k_F_16_0, k_F_16_1, k_F_16_2, f_F_16, l_F_16⟩ := bk3 H_F_16
  replace H_F_16 := Lib.hid H_F_16
  obtain ⟨k_H_16_0, k_H_16_1, k_H_16_2, f_H_16, l_H_16⟩ := bk3 H_H_16
  replace H_H_16 := Lib.hid H_H_16
  go_upto_region 12 with (first | (have _t := tok17; go_at_call 12; refine (DrawQuarticValue_any (h2.below (by repeat' first | (with_reducible first | apply zRf | assumption | apply zDn | apply zDr | apply zAl | apply zSt | refine zVi (by assumption) ?_ ?_) | go_size))).mono ?_; rintro e w17 ⟨gd, ga, gc, x, y, rfl, hb17⟩; clear tok17 _t; have hz17 := hb17.size; (try simp only [World.size_alloc, World.size_setCell, World.size_drew, World.size_drewN'] at hz17)))
  have H_F_17 := (hb17.block (w1.heap.size) (blk_lt' H_F_16.out)).trans H_F_16.out
  clear k_F_16_0 k_F_16_1 k_F_16_2 f_F_16 H_F_16
  obtain ⟨k_F_17_0, k_F_17_1, k_F_17_2, f_F_17, l_F_17⟩ := bk3 H_F_17
  replace H_F_17 := Lib.hid H_F_17
  have H_H_17 := (hb17.block (w11.heap.size) (blk_lt' H_H_16.out)).trans H_H_16.out
  clear k_H_16_0 k_H_16_1 k_H_16_2 f_H_16 H_H_16
  obtain ⟨k_H_17_0, k_H_17_1, k_H_17_2, f_H_17, l_H_17⟩ := bk3 H_H_17
  replace H_H_17 := Lib.hid H_H_17
  have hB17 : Below w.heap.size w w17 := below_via hb17 (by assumption) (by first | exact hB16.size | go_size)
  clear hb17
  obtain ⟨V, o5, R19, R21, Fq⟩ := lp_set3 gd ga gc x y
  have T19 := fun W : World => Lib.hid (R19 W)
  have T21 := fun W : World => Lib.hid (R21 W)
  clear R19 R21
  replace Fq := Lib.hid Fq
  replace H_F_17 := H_F_17.out
  replace H_H_17 := H_H_17.out
  refine chk (fun W => Below w.heap.size w W ∧ W.heap[w1.heap.size]? = some (.cells #[.int .i64 D, .int .i64 A, .int .i64 C] 24 (0, 0)) ∧ W.heap[w11.heap.size]? = some (.cells #[.int .i64 hd, .int .i64 ha, .int .i64 hc] 24 (0, 0)) ∧ W.heap[w17.heap.size]? = some (.cells #[.int .i64 gd, .int .i64 ga, .int .i64 gc] 24 (0, 0))) (by refine ⟨?_, ?_, ?_, ?_⟩ <;> (repeat' first | (with_reducible first | assumption | (apply Ne.symm; assumption) | apply Nat.le_refl | apply Nat.le_add_right | apply zL | apply zRf | apply Wx.box | apply Wx.box4 | apply zWa | apply Wx.drew | apply zWn | apply bx_drew | apply bx_drewN | apply bx_set3 | apply bx_set2 | apply bx_set4 | apply bx_set1) | ((with_reducible apply bx_new); (focus (go_size; done))) | (with_reducible first | apply zOl | apply zFa | apply zDn | apply zDr | apply zAl | apply zSt | refine zVi (by assumption) ?_ ?_) | go_size | omega)) ?_
  clear k_F_17_0 k_F_17_1 k_F_17_2 f_F_17 H_F_17
  clear k_H_17_0 k_H_17_1 k_H_17_2 f_H_17 H_H_17
  clear hB17
  rintro w18 ⟨hB18, H_F_18, H_H_18, H_G_18⟩
  obtain ⟨k_F_18_0, k_F_18_1, k_F_18_2, f_F_18, l_F_18⟩ := bk3 H_F_18
  replace H_F_18 := Lib.hid H_F_18
  obtain ⟨k_H_18_0, k_H_18_1, k_H_18_2, f_H_18, l_H_18⟩ := bk3 H_H_18
  replace H_H_18 := Lib.hid H_H_18
  obtain ⟨k_G_18_0, k_G_18_1, k_G_18_2, f_G_18, l_G_18⟩ := bk3 H_G_18
  replace H_G_18 := Lib.hid H_G_18
  go_upto_region 13 with (first | (have _t := tok19; go_at_call 13; (with_reducible refine ((T19 _).out).mono ?_); rintro e w19 ⟨rfl, hb19⟩; clear tok19 _t; have hz19 := hb19.size; (try simp only [World.size_alloc, World.size_setCell, World.size_drew, World.size_drewN'] at hz19)))
  have H_F_19 := (hb19.block (w1.heap.size) (blk_lt' H_F_18.out)).trans H_F_18.out
  clear k_F_18_0 k_F_18_1 k_F_18_2 f_F_18 H_F_18
  obtain ⟨k_F_19_0, k_F_19_1, k_F_19_2, f_F_19, l_F_19⟩ := bk3 H_F_19
  replace H_F_19 := Lib.hid H_F_19
  have H_H_19 := (hb19.block (w11.heap.size) (blk_lt' H_H_18.out)).trans H_H_18.out
  clear k_H_18_0 k_H_18_1 k_H_18_2 f_H_18 H_H_18
  obtain ⟨k_H_19_0, k_H_19_1, k_H_19_2, f_H_19, l_H_19⟩ := bk3 H_H_19
  replace H_H_19 := Lib.hid H_H_19
  have H_G_19 := (hb19.block (w17.heap.size) (blk_lt' H_G_18.out)).trans H_G_18.out
  clear k_G_18_0 k_G_18_1 k_G_18_2 f_G_18 H_G_18
  obtain ⟨k_G_19_0, k_G_19_1, k_G_19_2, f_G_19, l_G_19⟩ := bk3 H_G_19
  replace H_G_19 := Lib.hid H_G_19
  have hB19 : Below w.heap.size w w19 := below_via hb19 (by assumption) (by first | exact hB18.size | go_size)
  clear hb19 T19
  replace H_F_19 := H_F_19.out
  replace H_H_19 := H_H_19.out
  replace H_G_19 := H_G_19.out
  refine chk (fun W => Below w.heap.size w W ∧ W.heap[w1.heap.size]? = some (.cells #[.int .i64 D, .int .i64 A, .int .i64 C] 24 (0, 0)) ∧ W.heap[w11.heap.size]? = some (.cells #[.int .i64 hd, .int .i64 ha, .int .i64 hc] 24 (0, 0)) ∧ W.heap[w17.heap.size]? = some (.cells #[.int .i64 gd, .int .i64 ga, .int .i64 gc] 24 (0, 0))) (by refine ⟨?_, ?_, ?_, ?_⟩ <;> (repeat' first | (with_reducible first | assumption | (apply Ne.symm; assumption) | apply Nat.le_refl | apply Nat.le_add_right | apply zL | apply zRf | apply Wx.box | apply Wx.box4 | apply zWa | apply Wx.drew | apply zWn | apply bx_drew | apply bx_drewN | apply bx_set3 | apply bx_set2 | apply bx_set4 | apply bx_set1) | ((with_reducible apply bx_new); (focus (go_size; done))) | (with_reducible first | apply zOl | apply zFa | apply zDn | apply zDr | apply zAl | apply zSt | refine zVi (by assumption) ?_ ?_) | go_size | omega)) ?_
  clear k_F_19_0 k_F_19_1 k_F_19_2 f_F_19 H_F_19
  clear k_H_19_0 k_H_19_1 k_H_19_2 f_H_19 H_H_19
  clear k_G_19_0 k_G_19_1 k_G_19_2 f_G_19 H_G_19
  clear hB19
  rintro w20 ⟨hB20, H_F_20, H_H_20, H_G_20⟩
  obtain ⟨k_F_20_0, k_F_20_1, k_F_20_2, f_F_20, l_F_20⟩ := bk3 H_F_20
  replace H_F_20 := Lib.hid H_F_20
  obtain ⟨k_H_20_0, k_H_20_1, k_H_20_2, f_H_20, l_H_20⟩ := bk3 H_H_20
  replace H_H_20 := Lib.hid H_H_20
  obtain ⟨k_G_20_0, k_G_20_1, k_G_20_2, f_G_20, l_G_20⟩ := bk3 H_G_20
  replace H_G_20 := Lib.hid H_G_20
  go_upto_region 14 with (first | (have _t := tok21; go_at_call 14; (with_reducible refine ((T21 _).out).mono ?_); rintro e w21 ⟨rfl, hb21⟩; clear tok21 _t; have hz21 := hb21.size; (try simp only [World.size_alloc, World.size_setCell, World.size_drew, World.size_drewN'] at hz21)))
  have H_F_21 := (hb21.block (w1.heap.size) (blk_lt' H_F_20.out)).trans H_F_20.out
  clear k_F_20_0 k_F_20_1 k_F_20_2 f_F_20 H_F_20
  obtain ⟨k_F_21_0, k_F_21_1, k_F_21_2, f_F_21, l_F_21⟩ := bk3 H_F_21
  replace H_F_21 := Lib.hid H_F_21
  have H_H_21 := (hb21.block (w11.heap.size) (blk_lt' H_H_20.out)).trans H_H_20.out
  clear k_H_20_0 k_H_20_1 k_H_20_2 f_H_20 H_H_20
  obtain ⟨k_H_21_0, k_H_21_1, k_H_21_2, f_H_21, l_H_21⟩ := bk3 H_H_21
  replace H_H_21 := Lib.hid H_H_21
  have H_G_21 := (hb21.block (w17.heap.size) (blk_lt' H_G_20.out)).trans H_G_20.out
  clear k_G_20_0 k_G_20_1 k_G_20_2 f_G_20 H_G_20
  obtain ⟨k_G_21_0, k_G_21_1, k_G_21_2, f_G_21, l_G_21⟩ := bk3 H_G_21
  replace H_G_21 := Lib.hid H_G_21
  have hB21 : Below w.heap.size w w21 := below_via hb21 (by assumption) (by first | exact hB20.size | go_size)
  clear hb21 T21
  replace H_F_21 := H_F_21.out
  replace H_H_21 := H_H_21.out
  replace H_G_21 := H_G_21.out
  refine chk (fun W => Below w.heap.size w W ∧ W.heap[w1.heap.size]? = some (.cells #[.int .i64 D, .int .i64 A, .int .i64 C] 24 (0, 0)) ∧ W.heap[w11.heap.size]? = some (.cells #[.int .i64 hd, .int .i64 ha, .int .i64 hc] 24 (0, 0)) ∧ W.heap[w17.heap.size]? = some (.cells #[.int .i64 gd, .int .i64 ga, .int .i64 gc] 24 (0, 0))) (by refine ⟨?_, ?_, ?_, ?_⟩ <;> (repeat' first | (with_reducible first | assumption | (apply Ne.symm; assumption) | apply Nat.le_refl | apply Nat.le_add_right | apply zL | apply zRf | apply Wx.box | apply Wx.box4 | apply zWa | apply Wx.drew | apply zWn | apply bx_drew | apply bx_drewN | apply bx_set3 | apply bx_set2 | apply bx_set4 | apply bx_set1) | ((with_reducible apply bx_new); (focus (go_size; done))) | (with_reducible first | apply zOl | apply zFa | apply zDn | apply zDr | apply zAl | apply zSt | refine zVi (by assumption) ?_ ?_) | go_size | omega)) ?_
  clear k_F_21_0 k_F_21_1 k_F_21_2 f_F_21 H_F_21
  clear k_H_21_0 k_H_21_1 k_H_21_2 f_H_21 H_H_21
  clear k_G_21_0 k_G_21_1 k_G_21_2 f_G_21 H_G_21
  clear hB21
  rintro w22 ⟨hB22, H_F_22, H_H_22, H_G_22⟩
  obtain ⟨k_F_22_0, k_F_22_1, k_F_22_2, f_F_22, l_F_22⟩ := bk3 H_F_22
  replace H_F_22 := Lib.hid H_F_22
  obtain ⟨k_H_22_0, k_H_22_1, k_H_22_2, f_H_22, l_H_22⟩ := bk3 H_H_22
  replace H_H_22 := Lib.hid H_H_22
  obtain ⟨k_G_22_0, k_G_22_1, k_G_22_2, f_G_22, l_G_22⟩ := bk3 H_G_22
  replace H_G_22 := Lib.hid H_G_22
  go_upto_region 15 with (first | (have _t := tok23; go_at_call 15; refine (DrawCountPossible_any (h2.below (by repeat' first | (with_reducible first | apply zRf | assumption | apply zDn | apply zDr | apply zAl | apply zSt | refine zVi (by assumption) ?_ ?_) | go_size))).mono ?_; rintro e w23 ⟨id, ia, ic, cs, ct, rfl, hb23⟩; clear tok23 _t; have hz23 := hb23.size; (try simp only [World.size_alloc, World.size_setCell, World.size_drew, World.size_drewN'] at hz23)))
  have H_F_23 := (hb23.block (w1.heap.size) (blk_lt' H_F_22.out)).trans H_F_22.out
  clear k_F_22_0 k_F_22_1 k_F_22_2 f_F_22 H_F_22
  obtain ⟨k_F_23_0, k_F_23_1, k_F_23_2, f_F_23, l_F_23⟩ := bk3 H_F_23
  replace H_F_23 := Lib.hid H_F_23
  have H_H_23 := (hb23.block (w11.heap.size) (blk_lt' H_H_22.out)).trans H_H_22.out
  clear k_H_22_0 k_H_22_1 k_H_22_2 f_H_22 H_H_22
  obtain ⟨k_H_23_0, k_H_23_1, k_H_23_2, f_H_23, l_H_23⟩ := bk3 H_H_23
  replace H_H_23 := Lib.hid H_H_23
  have H_G_23 := (hb23.block (w17.heap.size) (blk_lt' H_G_22.out)).trans H_G_22.out
  clear k_G_22_0 k_G_22_1 k_G_22_2 f_G_22 H_G_22
  obtain ⟨k_G_23_0, k_G_23_1, k_G_23_2, f_G_23, l_G_23⟩ := bk3 H_G_23
  replace H_G_23 := Lib.hid H_G_23
  have hB23 : Below w.heap.size w w23 := below_via hb23 (by assumption) (by first | exact hB22.size | go_size)
  clear hb23
  obtain ⟨cc, o7, R25, R27, hcc⟩ := lp_set4 id ia ic cs ct
  have T25 := fun W : World => Lib.hid (R25 W)
  have T27 := fun W : World => Lib.hid (R27 W)
  clear R25 R27
  replace H_F_23 := H_F_23.out
  replace H_H_23 := H_H_23.out
  replace H_G_23 := H_G_23.out
  refine chk (fun W => Below w.heap.size w W ∧ W.heap[w1.heap.size]? = some (.cells #[.int .i64 D, .int .i64 A, .int .i64 C] 24 (0, 0)) ∧ W.heap[w11.heap.size]? = some (.cells #[.int .i64 hd, .int .i64 ha, .int .i64 hc] 24 (0, 0)) ∧ W.heap[w17.heap.size]? = some (.cells #[.int .i64 gd, .int .i64 ga, .int .i64 gc] 24 (0, 0)) ∧ W.heap[w23.heap.size]? = some (.cells #[.int .i64 id, .int .i64 ia, .int .i64 ic] 24 (0, 0))) (by refine ⟨?_, ?_, ?_, ?_, ?_⟩ <;> (repeat' first | (with_reducible first | assumption | (apply Ne.symm; assumption) | apply Nat.le_refl | apply Nat.le_add_right | apply zL | apply zRf | apply Wx.box | apply Wx.box4 | apply zWa | apply Wx.drew | apply zWn | apply bx_drew | apply bx_drewN | apply bx_set3 | apply bx_set2 | apply bx_set4 | apply bx_set1) | ((with_reducible apply bx_new); (focus (go_size; done))) | (with_reducible first | apply zOl | apply zFa | apply zDn | apply zDr | apply zAl | apply zSt | refine zVi (by assumption) ?_ ?_) | go_size | omega)) ?_
  clear k_F_23_0 k_F_23_1 k_F_23_2 f_F_23 H_F_23
  clear k_H_23_0 k_H_23_1 k_H_23_2 f_H_23 H_H_23
  clear k_G_23_0 k_G_23_1 k_G_23_2 f_G_23 H_G_23
  clear hB23
  rintro w24 ⟨hB24, H_F_24, H_H_24, H_G_24, H_I_24⟩
  obtain ⟨k_F_24_0, k_F_24_1, k_F_24_2, f_F_24, l_F_24⟩ := bk3 H_F_24
  replace H_F_24 := Lib.hid H_F_24
  obtain ⟨k_H_24_0, k_H_24_1, k_H_24_2, f_H_24, l_H_24⟩ := bk3 H_H_24
  replace H_H_24 := Lib.hid H_H_24
  obtain ⟨k_G_24_0, k_G_24_1, k_G_24_2, f_G_24, l_G_24⟩ := bk3 H_G_24
  replace H_G_24 := Lib.hid H_G_24
  obtain ⟨k_I_24_0, k_I_24_1, k_I_24_2, f_I_24, l_I_24⟩ := bk3 H_I_24
  replace H_I_24 := Lib.hid H_I_24
  clear h2
  go_upto_region 16 with (first | (have _t := tok25; go_at_call 16; (with_reducible refine ((T25 _).out).mono ?_); rintro e w25 ⟨rfl, hb25⟩; clear tok25 _t; have hz25 := hb25.size; (try simp only [World.size_alloc, World.size_setCell, World.size_drew, World.size_drewN'] at hz25)))
  have H_F_25 := (hb25.block (w1.heap.size) (blk_lt' H_F_24.out)).trans H_F_24.out
  clear k_F_24_0 k_F_24_1 k_F_24_2 f_F_24 H_F_24
  obtain ⟨k_F_25_0, k_F_25_1, k_F_25_2, f_F_25, l_F_25⟩ := bk3 H_F_25
  replace H_F_25 := Lib.hid H_F_25
  have H_H_25 := (hb25.block (w11.heap.size) (blk_lt' H_H_24.out)).trans H_H_24.out
  clear k_H_24_0 k_H_24_1 k_H_24_2 f_H_24 H_H_24
  obtain ⟨k_H_25_0, k_H_25_1, k_H_25_2, f_H_25, l_H_25⟩ := bk3 H_H_25
  replace H_H_25 := Lib.hid H_H_25
  have H_G_25 := (hb25.block (w17.heap.size) (blk_lt' H_G_24.out)).trans H_G_24.out
  clear k_G_24_0 k_G_24_1 k_G_24_2 f_G_24 H_G_24
  obtain ⟨k_G_25_0, k_G_25_1, k_G_25_2, f_G_25, l_G_25⟩ := bk3 H_G_25
  replace H_G_25 := Lib.hid H_G_25
  have H_I_25 := (hb25.block (w23.heap.size) (blk_lt' H_I_24.out)).trans H_I_24.out
  clear k_I_24_0 k_I_24_1 k_I_24_2 f_I_24 H_I_24
  obtain ⟨k_I_25_0, k_I_25_1, k_I_25_2, f_I_25, l_I_25⟩ := bk3 H_I_25
  replace H_I_25 := Lib.hid H_I_25
  have hB25 : Below w.heap.size w w25 := below_via hb25 (by assumption) (by first | exact hB24.size | go_size)
  clear hb25 T25
  replace H_F_25 := H_F_25.out
  replace H_H_25 := H_H_25.out
  replace H_G_25 := H_G_25.out
  replace H_I_25 := H_I_25.out
  refine chk (fun W => Below w.heap.size w W ∧ W.heap[w1.heap.size]? = some (.cells #[.int .i64 D, .int .i64 A, .int .i64 C] 24 (0, 0)) ∧ W.heap[w11.heap.size]? = some (.cells #[.int .i64 hd, .int .i64 ha, .int .i64 hc] 24 (0, 0)) ∧ W.heap[w17.heap.size]? = some (.cells #[.int .i64 gd, .int .i64 ga, .int .i64 gc] 24 (0, 0)) ∧ W.heap[w23.heap.size]? = some (.cells #[.int .i64 id, .int .i64 ia, .int .i64 ic] 24 (0, 0))) (by refine ⟨?_, ?_, ?_, ?_, ?_⟩ <;> (repeat' first | (with_reducible first | assumption | (apply Ne.symm; assumption) | apply Nat.le_refl | apply Nat.le_add_right | apply zL | apply zRf | apply Wx.box | apply Wx.box4 | apply zWa | apply Wx.drew | apply zWn | apply bx_drew | apply bx_drewN | apply bx_set3 | apply bx_set2 | apply bx_set4 | apply bx_set1) | ((with_reducible apply bx_new); (focus (go_size; done))) | (with_reducible first | apply zOl | apply zFa | apply zDn | apply zDr | apply zAl | apply zSt | refine zVi (by assumption) ?_ ?_) | go_size | omega)) ?_
  clear k_F_25_0 k_F_25_1 k_F_25_2 f_F_25 H_F_25
  clear k_H_25_0 k_H_25_1 k_H_25_2 f_H_25 H_H_25
  clear k_G_25_0 k_G_25_1 k_G_25_2 f_G_25 H_G_25
  clear k_I_25_0 k_I_25_1 k_I_25_2 f_I_25 H_I_25
  clear hB25
  rintro w26 ⟨hB26, H_F_26, H_H_26, H_G_26, H_I_26⟩
  obtain ⟨k_F_26_0, k_F_26_1, k_F_26_2, f_F_26, l_F_26⟩ := bk3 H_F_26
  replace H_F_26 := Lib.hid H_F_26
  obtain ⟨k_H_26_0, k_H_26_1, k_H_26_2, f_H_26, l_H_26⟩ := bk3 H_H_26
  replace H_H_26 := Lib.hid H_H_26
  obtain ⟨k_G_26_0, k_G_26_1, k_G_26_2, f_G_26, l_G_26⟩ := bk3 H_G_26
  replace H_G_26 := Lib.hid H_G_26
  obtain ⟨k_I_26_0, k_I_26_1, k_I_26_2, f_I_26, l_I_26⟩ := bk3 H_I_26
  replace H_I_26 := Lib.hid H_I_26
  go_upto_region 17 with (first | (have _t := tok27; go_at_call 17; (with_reducible refine ((T27 _).out).mono ?_); rintro e w27 ⟨rfl, hb27⟩; clear tok27 _t; have hz27 := hb27.size; (try simp only [World.size_alloc, World.size_setCell, World.size_drew, World.size_drewN'] at hz27)))
  have H_F_27 := (hb27.block (w1.heap.size) (blk_lt' H_F_26.out)).trans H_F_26.out
  clear k_F_26_0 k_F_26_1 k_F_26_2 f_F_26 H_F_26
  obtain ⟨k_F_27_0, k_F_27_1, k_F_27_2, f_F_27, l_F_27⟩ := bk3 H_F_27
  replace H_F_27 := Lib.hid H_F_27
  have H_H_27 := (hb27.block (w11.heap.size) (blk_lt' H_H_26.out)).trans H_H_26.out
  clear k_H_26_0 k_H_26_1 k_H_26_2 f_H_26 H_H_26
  obtain ⟨k_H_27_0, k_H_27_1, k_H_27_2, f_H_27, l_H_27⟩ := bk3 H_H_27
  replace H_H_27 := Lib.hid H_H_27
  have H_G_27 := (hb27.block (w17.heap.size) (blk_lt' H_G_26.out)).trans H_G_26.out
  clear k_G_26_0 k_G_26_1 k_G_26_2 f_G_26 H_G_26
  obtain ⟨k_G_27_0, k_G_27_1, k_G_27_2, f_G_27, l_G_27⟩ := bk3 H_G_27
  replace H_G_27 := Lib.hid H_G_27
  have H_I_27 := (hb27.block (w23.heap.size) (blk_lt' H_I_26.out)).trans H_I_26.out
  clear k_I_26_0 k_I_26_1 k_I_26_2 f_I_26 H_I_26
  obtain ⟨k_I_27_0, k_I_27_1, k_I_27_2, f_I_27, l_I_27⟩ := bk3 H_I_27
  replace H_I_27 := Lib.hid H_I_27
  have hB27 : Below w.heap.size w w27 := below_via hb27 (by assumption) (by first | exact hB26.size | go_size)
  clear hb27 T27
  replace H_F_27 := H_F_27.out
  replace H_H_27 := H_H_27.out
  replace H_G_27 := H_G_27.out
  replace H_I_27 := H_I_27.out
  refine chk (fun W => Below w.heap.size w W ∧ W.heap[w1.heap.size]? = some (.cells #[.int .i64 D, .int .i64 A, .int .i64 C] 24 (0, 0)) ∧ W.heap[w11.heap.size]? = some (.cells #[.int .i64 hd, .int .i64 ha, .int .i64 hc] 24 (0, 0)) ∧ W.heap[w17.heap.size]? = some (.cells #[.int .i64 gd, .int .i64 ga, .int .i64 gc] 24 (0, 0)) ∧ W.heap[w23.heap.size]? = some (.cells #[.int .i64 id, .int .i64 ia, .int .i64 ic] 24 (0, 0))) (by refine ⟨?_, ?_, ?_, ?_, ?_⟩ <;> (repeat' first | (with_reducible first | assumption | (apply Ne.symm; assumption) | apply Nat.le_refl | apply Nat.le_add_right | apply zL | apply zRf | apply Wx.box | apply Wx.box4 | apply zWa | apply Wx.drew | apply zWn | apply bx_drew | apply bx_drewN | apply bx_set3 | apply bx_set2 | apply bx_set4 | apply bx_set1) | ((with_reducible apply bx_new); (focus (go_size; done))) | (with_reducible first | apply zOl | apply zFa | apply zDn | apply zDr | apply zAl | apply zSt | refine zVi (by assumption) ?_ ?_) | go_size | omega)) ?_
  clear k_F_27_0 k_F_27_1 k_F_27_2 f_F_27 H_F_27
  clear k_H_27_0 k_H_27_1 k_H_27_2 f_H_27 H_H_27
  clear k_G_27_0 k_G_27_1 k_G_27_2 f_G_27 H_G_27
  clear k_I_27_0 k_I_27_1 k_I_27_2 f_I_27 H_I_27
  clear hB27
  rintro w28 ⟨hB28, H_F_28, H_H_28, H_G_28, H_I_28⟩
  obtain ⟨k_F_28_0, k_F_28_1, k_F_28_2, f_F_28, l_F_28⟩ := bk3 H_F_28
  replace H_F_28 := Lib.hid H_F_28
  obtain ⟨k_H_28_0, k_H_28_1, k_H_28_2, f_H_28, l_H_28⟩ := bk3 H_H_28
  replace H_H_28 := Lib.hid H_H_28
  obtain ⟨k_G_28_0, k_G_28_1, k_G_28_2, f_G_28, l_G_28⟩ := bk3 H_G_28
  replace H_G_28 := Lib.hid H_G_28
  obtain ⟨k_I_28_0, k_I_28_1, k_I_28_2, f_I_28, l_I_28⟩ := bk3 H_I_28
  replace H_I_28 := Lib.hid H_I_28
  go_upto_region 18 with (first | (have _t := tok29; go_at_call 18; (with_reducible refine ((T29 _).out).mono ?_); rintro e w29 ⟨rfl, hb29⟩; clear tok29 _t; have hz29 := hb29.size; (try simp only [World.size_alloc, World.size_setCell, World.size_drew, World.size_drewN'] at hz29)))
  have H_F_29 := (hb29.block (w1.heap.size) (blk_lt' H_F_28.out)).trans H_F_28.out
  clear k_F_28_0 k_F_28_1 k_F_28_2 f_F_28 H_F_28
  obtain ⟨k_F_29_0, k_F_29_1, k_F_29_2, f_F_29, l_F_29⟩ := bk3 H_F_29
  replace H_F_29 := Lib.hid H_F_29
  have H_H_29 := (hb29.block (w11.heap.size) (blk_lt' H_H_28.out)).trans H_H_28.out
  clear k_H_28_0 k_H_28_1 k_H_28_2 f_H_28 H_H_28
  obtain ⟨k_H_29_0, k_H_29_1, k_H_29_2, f_H_29, l_H_29⟩ := bk3 H_H_29
  replace H_H_29 := Lib.hid H_H_29
  have H_G_29 := (hb29.block (w17.heap.size) (blk_lt' H_G_28.out)).trans H_G_28.out
  clear k_G_28_0 k_G_28_1 k_G_28_2 f_G_28 H_G_28
  obtain ⟨k_G_29_0, k_G_29_1, k_G_29_2, f_G_29, l_G_29⟩ := bk3 H_G_29
  replace H_G_29 := Lib.hid H_G_29
  have H_I_29 := (hb29.block (w23.heap.size) (blk_lt' H_I_28.out)).trans H_I_28.out
  clear k_I_28_0 k_I_28_1 k_I_28_2 f_I_28 H_I_28
  obtain ⟨k_I_29_0, k_I_29_1, k_I_29_2, f_I_29, l_I_29⟩ := bk3 H_I_29
  replace H_I_29 := Lib.hid H_I_29
  have hB29 : Below w.heap.size w w29 := below_via hb29 (by assumption) (by first | exact hB28.size | go_size)
  clear hb29 T29
  replace H_F_29 := H_F_29.out
  replace H_H_29 := H_H_29.out
  replace H_G_29 := H_G_29.out
  replace H_I_29 := H_I_29.out
  refine chk (fun W => Below w.heap.size w W ∧ W.heap[w1.heap.size]? = some (.cells #[.int .i64 D, .int .i64 A, .int .i64 C] 24 (0, 0)) ∧ W.heap[w11.heap.size]? = some (.cells #[.int .i64 hd, .int .i64 ha, .int .i64 hc] 24 (0, 0)) ∧ W.heap[w17.heap.size]? = some (.cells #[.int .i64 gd, .int .i64 ga, .int .i64 gc] 24 (0, 0)) ∧ W.heap[w23.heap.size]? = some (.cells #[.int .i64 id, .int .i64 ia, .int .i64 ic] 24 (0, 0))) (by refine ⟨?_, ?_, ?_, ?_, ?_⟩ <;> (repeat' first | (with_reducible first | assumption | (apply Ne.symm; assumption) | apply Nat.le_refl | apply Nat.le_add_right | apply zL | apply zRf | apply Wx.box | apply Wx.box4 | apply zWa | apply Wx.drew | apply zWn | apply bx_drew | apply bx_drewN | apply bx_set3 | apply bx_set2 | apply bx_set4 | apply bx_set1) | ((with_reducible apply bx_new); (focus (go_size; done))) | (with_reducible first | apply zOl | apply zFa | apply zDn | apply zDr | apply zAl | apply zSt | refine zVi (by assumption) ?_ ?_) | go_size | omega)) ?_
  clear k_F_29_0 k_F_29_1 k_F_29_2 f_F_29 H_F_29
  clear k_H_29_0 k_H_29_1 k_H_29_2 f_H_29 H_H_29
  clear k_G_29_0 k_G_29_1 k_G_29_2 f_G_29 H_G_29
  clear k_I_29_0 k_I_29_1 k_I_29_2 f_I_29 H_I_29
  clear hB29
  rintro w30 ⟨hB30, H_F_30, H_H_30, H_G_30, H_I_30⟩
  obtain ⟨k_F_30_0, k_F_30_1, k_F_30_2, f_F_30, l_F_30⟩ := bk3 H_F_30
  replace H_F_30 := Lib.hid H_F_30
  obtain ⟨k_H_30_0, k_H_30_1, k_H_30_2, f_H_30, l_H_30⟩ := bk3 H_H_30
  replace H_H_30 := Lib.hid H_H_30
  obtain ⟨k_G_30_0, k_G_30_1, k_G_30_2, f_G_30, l_G_30⟩ := bk3 H_G_30
  replace H_G_30 := Lib.hid H_G_30
  obtain ⟨k_I_30_0, k_I_30_1, k_I_30_2, f_I_30, l_I_30⟩ := bk3 H_I_30
  replace H_I_30 := Lib.hid H_I_30
  go_upto_region 19 with (first | (have _t := tok31; go_at_call 19; (with_reducible refine ((T31 _).out).mono ?_); rintro e w31 ⟨rfl, hb31⟩; clear tok31 _t; have hz31 := hb31.size; (try simp only [World.size_alloc, World.size_setCell, World.size_drew, World.size_drewN'] at hz31)))
  have H_F_31 := (hb31.block (w1.heap.size) (blk_lt' H_F_30.out)).trans H_F_30.out
  clear k_F_30_0 k_F_30_1 k_F_30_2 f_F_30 H_F_30
  obtain ⟨k_F_31_0, k_F_31_1, k_F_31_2, f_F_31, l_F_31⟩ := bk3 H_F_31
  replace H_F_31 := Lib.hid H_F_31
  have H_H_31 := (hb31.block (w11.heap.size) (blk_lt' H_H_30.out)).trans H_H_30.out
  clear k_H_30_0 k_H_30_1 k_H_30_2 f_H_30 H_H_30
  obtain ⟨k_H_31_0, k_H_31_1, k_H_31_2, f_H_31, l_H_31⟩ := bk3 H_H_31
  replace H_H_31 := Lib.hid H_H_31
  have H_G_31 := (hb31.block (w17.heap.size) (blk_lt' H_G_30.out)).trans H_G_30.out
  clear k_G_30_0 k_G_30_1 k_G_30_2 f_G_30 H_G_30
  obtain ⟨k_G_31_0, k_G_31_1, k_G_31_2, f_G_31, l_G_31⟩ := bk3 H_G_31
  replace H_G_31 := Lib.hid H_G_31
  have H_I_31 := (hb31.block (w23.heap.size) (blk_lt' H_I_30.out)).trans H_I_30.out
  clear k_I_30_0 k_I_30_1 k_I_30_2 f_I_30 H_I_30
  obtain ⟨k_I_31_0, k_I_31_1, k_I_31_2, f_I_31, l_I_31⟩ := bk3 H_I_31
  replace H_I_31 := Lib.hid H_I_31
  have hB31 : Below w.heap.size w w31 := below_via hb31 (by assumption) (by first | exact hB30.size | go_size)
  clear hb31 T31
  replace H_F_31 := H_F_31.out
  replace H_H_31 := H_H_31.out
  replace H_G_31 := H_G_31.out
  replace H_I_31 := H_I_31.out
  refine chk (fun W => Below w.heap.size w W ∧ W.heap[w1.heap.size]? = some (.cells #[.int .i64 D, .int .i64 A, .int .i64 C] 24 (0, 0)) ∧ W.heap[w11.heap.size]? = some (.cells #[.int .i64 hd, .int .i64 ha, .int .i64 hc] 24 (0, 0)) ∧ W.heap[w17.heap.size]? = some (.cells #[.int .i64 gd, .int .i64 ga, .int .i64 gc] 24 (0, 0)) ∧ W.heap[w23.heap.size]? = some (.cells #[.int .i64 id, .int .i64 ia, .int .i64 ic] 24 (0, 0))) (by refine ⟨?_, ?_, ?_, ?_, ?_⟩ <;> (repeat' first | (with_reducible first | assumption | (apply Ne.symm; assumption) | apply Nat.le_refl | apply Nat.le_add_right | apply zL | apply zRf | apply Wx.box | apply Wx.box4 | apply zWa | apply Wx.drew | apply zWn | apply bx_drew | apply bx_drewN | apply bx_set3 | apply bx_set2 | apply bx_set4 | apply bx_set1) | ((with_reducible apply bx_new); (focus (go_size; done))) | (with_reducible first | apply zOl | apply zFa | apply zDn | apply zDr | apply zAl | apply zSt | refine zVi (by assumption) ?_ ?_) | go_size | omega)) ?_
  clear k_F_31_0 k_F_31_1 k_F_31_2 f_F_31 H_F_31
  clear k_H_31_0 k_H_31_1 k_H_31_2 f_H_31 H_H_31
  clear k_G_31_0 k_G_31_1 k_G_31_2 f_G_31 H_G_31
  clear k_I_31_0 k_I_31_1 k_I_31_2 f_I_31 H_I_31
  clear hB31
  rintro w32 ⟨hB32, H_F_32, H_H_32, H_G_32, H_I_32⟩
  obtain ⟨k_F_32_0, k_F_32_1, k_F_32_2, f_F_32, l_F_32⟩ := bk3 H_F_32
  replace H_F_32 := Lib.hid H_F_32
  obtain ⟨k_H_32_0, k_H_32_1, k_H_32_2, f_H_32, l_H_32⟩ := bk3 H_H_32
  replace H_H_32 := Lib.hid H_H_32
  obtain ⟨k_G_32_0, k_G_32_1, k_G_32_2, f_G_32, l_G_32⟩ := bk3 H_G_32
  replace H_G_32 := Lib.hid H_G_32
  obtain ⟨k_I_32_0, k_I_32_1, k_I_32_2, f_I_32, l_I_32⟩ := bk3 H_I_32
  replace H_I_32 := Lib.hid H_I_32
  have e0 : (ok != ok) = false := by simp
  have e1 : (told != told) = false := by simp
  have e2 : (ll != ll) = false := by simp
  have e3 : (o3 != o3) = false := by simp
  have e4 : (o5 != o5) = false := by simp
  have e5 : (o7 != o7) = false := by simp
  have e6 : (o9 != o9) = false := by simp
  have v0 : (M != M) = false := by simp
  have v1 : (E != E) = false := by simp
  have v2 : (K != K) = false := by simp
  have v3 : (V != V) = false := by simp
  have v4 : (cc != cc) = false := by simp
  have v5 : (most != most) = false := by simp
  go_cut [262] (fun sq wx => sq = .bool false ∧ w32 = wx)
  case first =>
    have ho := Ft.out
    clear Fl Fc Fq Ft hcc
    rcases ok with _ | _
    · rcases told with _ | _
      · as_aux_lemma =>
          clear ho
          go_wp2_with fail
          all_goals (go_meet; exact ⟨by first | rfl | simp, rfl⟩)
      · as_aux_lemma =>
          clear ho
          go_wp2_with fail
          all_goals (go_meet; exact ⟨by first | rfl | simp, rfl⟩)
    · obtain rfl := ho rfl
      as_aux_lemma =>
        clear ho
        go_wp2_with fail
        go_meet
        exact ⟨rfl, rfl⟩
  case rest =>
    obtain ⟨rfl, hcw⟩ := hcut
    subst hcw
    clear e0 e1 e2 e3 e4 e5 e6 v0 v1 v2 v3 v4 v5 Ft
    clear k_H_32_0
    clear k_H_32_1
    clear k_H_32_2
    clear f_H_32 H_H_32
    clear k_I_32_0
    clear k_I_32_1
    clear k_I_32_2
    clear f_I_32 H_I_32
    iterate 90 (first | ((with_reducible show Code.wp _ (.seq (.seq (.region 21 _ _) _) _) _ _ _); exact FnLp_21 hB32 H_F_32.out H_G_32.out hcc Fl.out Fc.out Fq.out) | go_values | go_skip | go_guarded | go_step | go_upon | go_back | skip)
end Go.Proofs.Ytegiddpakocodaa
