/- FnClasses: the walk of the law. -/
import Derived.Test.YtnemnkbcbokafaaCld
import Derived.Test.YtnemnkbcbokafaaCs8
import Derived.Test.YtnemnkbcbokafaaOpen5
namespace Go.Proofs.Ytnemnkbcbokafaa
open Go.RowKit
set_option linter.unusedVariables false
set_option maxHeartbeats 0
set_option maxRecDepth 20000
set_option linter.unusedSimpArgs false

theorem FnClasses_any {s1 s2 : Option Addr} {m1 c1 m2 c2 : Nat} (w : World) (h1 : ByW w s1 m1) (h2 : ByW w s2 m2) : Calls Try.prog 3 #[.slice s1 m1 c1, .slice s2 m2 c2] w fun e w' => e = .returned (.bool true) ∧ Below w.heap.size w w' := by
  by_cases hbig : (1048576 : Int) < wrap64 ((m1 : Int) + m2)
  · go_enter Try.func3, Try.ntmps3
    go_wp2_with fail
    go_ret
    refine ⟨rfl, ?_⟩
    repeat' first | (with_reducible first | apply zRf | assumption | apply zDn | apply zDr | apply zAl | apply zSt | refine zVi (by assumption) ?_ ?_) | go_size
  have tok1 : True := trivial
  have tok2 : True := trivial
  have tok3 : True := trivial
  have tok4 : True := trivial
  have tok5 : True := trivial
  have tok6 : True := trivial
  have tok7 : True := trivial
  have tok8 : True := trivial
  have tok9 : True := trivial
  have tok10 : True := trivial
  have tok11 : True := trivial
  have tok12 : True := trivial
  have tok13 : True := trivial
  have tok14 : True := trivial
  have tok15 : True := trivial
  have tok16 : True := trivial
  have tok17 : True := trivial
  have tok18 : True := trivial
  have tok19 : True := trivial
  have tok20 : True := trivial
  have tok21 : True := trivial
  have tok22 : True := trivial
  have tok23 : True := trivial
  have tok24 : True := trivial
  have tok25 : True := trivial
  have tok26 : True := trivial
  have tok27 : True := trivial
  have tok28 : True := trivial
  have tok29 : True := trivial
  have tok30 : True := trivial
  have tok31 : True := trivial
  have tok32 : True := trivial
  have tok33 : True := trivial
  have tok34 : True := trivial
  have tok35 : True := trivial
  have tok36 : True := trivial
  go_enter Try.func3, Try.ntmps3
  go_upto_region 4 with (first | (have _t := tok1; go_at_call 4; refine (DrawSquarefreePart_any (h1.below (by repeat' first | (with_reducible first | apply zRf | assumption | apply zDn | apply zDr | apply zAl | apply zSt | refine zVi (by assumption) ?_ ?_) | go_size))).mono ?_; rintro e w1 ⟨n, rfl, hb1⟩; clear tok1 _t; have hz1 := hb1.size; (try simp only [World.size_alloc, World.size_setCell, World.size_drew, World.size_drewN'] at hz1)))
  obtain ⟨s, L, ok, R3, R5, R7, R9, F1, hL⟩ := cs_set1 n
  unfold NewD at R7 R9
  have T3 := fun W : World => Lib.hid (R3 W)
  have T5 := fun W : World => Lib.hid (R5 W)
  have T7 := fun W : World => Lib.hid (R7 W)
  have T9 := fun W : World => Lib.hid (R9 W)
  clear R3 R5 R7 R9
  replace F1 := Lib.hid F1
  refine chk (fun W => Below w.heap.size w W ∧ Below w1.heap.size w1 W) (by refine ⟨?_, ?_⟩ <;> (repeat' first | (with_reducible first | assumption | (apply Ne.symm; assumption) | apply Nat.le_refl | apply Nat.le_add_right | apply zL | apply zRf | apply Wx.box | apply Wx.box4 | apply zWa | apply Wx.drew | apply zWn | apply bx_drew | apply bx_drewN | apply bx_set3 | apply bx_set2 | apply bx_set4 | apply bx_set1) | ((with_reducible apply bx_new); (focus (go_size; done))) | (with_reducible first | apply zOl | apply zFa | apply zDn | apply zDr | apply zAl | apply zSt | refine zVi (by assumption) ?_ ?_) | go_size | omega)) ?_
  rintro w2 ⟨hB2, HB1⟩
  clear hb1 h1 hbig
  go_upto_region 5 with (first | (have _t := tok3; go_at_call 5; (with_reducible refine ((T3 _).out).mono ?_); rintro e w3 ⟨rfl, hb3⟩; clear tok3 _t; have hz3 := hb3.size; (try simp only [World.size_alloc, World.size_setCell, World.size_drew, World.size_drewN'] at hz3)))
  have hB3 : Below w.heap.size w w3 := below_via hb3 (by assumption) (by first | exact hB2.size | go_size)
  have HB1 := HB1.trans (hb3.mono HB1.size)
  have sq1 := HB1.size
  clear hb3 T3
  refine chk (fun W => Below w.heap.size w W ∧ Below w1.heap.size w1 W) (by refine ⟨?_, ?_⟩ <;> (repeat' first | (with_reducible first | assumption | (apply Ne.symm; assumption) | apply Nat.le_refl | apply Nat.le_add_right | apply zL | apply zRf | apply Wx.box | apply Wx.box4 | apply zWa | apply Wx.drew | apply zWn | apply bx_drew | apply bx_drewN | apply bx_set3 | apply bx_set2 | apply bx_set4 | apply bx_set1) | ((with_reducible apply bx_new); (focus (go_size; done))) | (with_reducible first | apply zOl | apply zFa | apply zDn | apply zDr | apply zAl | apply zSt | refine zVi (by assumption) ?_ ?_) | go_size | omega)) ?_
  clear hB3
  rintro w4 ⟨hB4, HB1⟩
  clear sq1
  go_upto_region 6 with (first | (have _t := tok5; go_at_call 6; (with_reducible refine ((T5 _).out).mono ?_); rintro e w5 ⟨rfl, hb5⟩; clear tok5 _t; have hz5 := hb5.size; (try simp only [World.size_alloc, World.size_setCell, World.size_drew, World.size_drewN'] at hz5)))
  have hB5 : Below w.heap.size w w5 := below_via hb5 (by assumption) (by first | exact hB4.size | go_size)
  have HB1 := HB1.trans (hb5.mono HB1.size)
  have sq1 := HB1.size
  clear hb5 T5
  refine chk (fun W => Below w.heap.size w W ∧ Below w1.heap.size w1 W) (by refine ⟨?_, ?_⟩ <;> (repeat' first | (with_reducible first | assumption | (apply Ne.symm; assumption) | apply Nat.le_refl | apply Nat.le_add_right | apply zL | apply zRf | apply Wx.box | apply Wx.box4 | apply zWa | apply Wx.drew | apply zWn | apply bx_drew | apply bx_drewN | apply bx_set3 | apply bx_set2 | apply bx_set4 | apply bx_set1) | ((with_reducible apply bx_new); (focus (go_size; done))) | (with_reducible first | apply zOl | apply zFa | apply zDn | apply zDr | apply zAl | apply zSt | refine zVi (by assumption) ?_ ?_) | go_size | omega)) ?_
  clear hB5
  rintro w6 ⟨hB6, HB1⟩
  clear sq1
  go_upto_region 7 with (first | (have _t := tok7; go_at_call 7; (with_reducible refine ((T7 _).out).mono ?_); rintro e w7 ⟨a10, c10, rfl, hx10, hb7⟩; clear tok7 _t; have hz7 := hb7.size; (try simp only [World.size_alloc, World.size_setCell, World.size_drew, World.size_drewN'] at hz7)))
  have hB7 : Below w.heap.size w w7 := below_via hb7 (by assumption) (by first | exact hB6.size | go_size)
  have HB1 := HB1.trans (hb7.mono HB1.size)
  have sq1 := HB1.size
  clear hb7 T7
  refine chk (fun W => Below w.heap.size w W ∧ Below w7.heap.size w7 W) (by refine ⟨?_, ?_⟩ <;> (repeat' first | (with_reducible first | assumption | (apply Ne.symm; assumption) | apply Nat.le_refl | apply Nat.le_add_right | apply zL | apply zRf | apply Wx.box | apply Wx.box4 | apply zWa | apply Wx.drew | apply zWn | apply bx_drew | apply bx_drewN | apply bx_set3 | apply bx_set2 | apply bx_set4 | apply bx_set1) | ((with_reducible apply bx_new); (focus (go_size; done))) | (with_reducible first | apply zOl | apply zFa | apply zDn | apply zDr | apply zAl | apply zSt | refine zVi (by assumption) ?_ ?_) | go_size | omega)) ?_
  clear hB7
  rintro w8 ⟨hB8, HB7⟩
  go_upto_region 8 with (first | (have _t := tok9; go_at_call 8; (with_reducible refine ((T9 _).out).mono ?_); rintro e w9 ⟨a12, c12, rfl, hx12, hb9⟩; clear tok9 _t; have hz9 := hb9.size; (try simp only [World.size_alloc, World.size_setCell, World.size_drew, World.size_drewN'] at hz9)))
  have hB9 : Below w.heap.size w w9 := below_via hb9 (by assumption) (by first | exact hB8.size | go_size)
  have HB7 := HB7.trans (hb9.mono HB7.size)
  have sq7 := HB7.size
  clear hb9 T9
  refine chk (fun W => Below w.heap.size w W ∧ Below w7.heap.size w7 W ∧ Below w9.heap.size w9 W) (by refine ⟨?_, ?_, ?_⟩ <;> (repeat' first | (with_reducible first | assumption | (apply Ne.symm; assumption) | apply Nat.le_refl | apply Nat.le_add_right | apply zL | apply zRf | apply Wx.box | apply Wx.box4 | apply zWa | apply Wx.drew | apply zWn | apply bx_drew | apply bx_drewN | apply bx_set3 | apply bx_set2 | apply bx_set4 | apply bx_set1) | ((with_reducible apply bx_new); (focus (go_size; done))) | (with_reducible first | apply zOl | apply zFa | apply zDn | apply zDr | apply zAl | apply zSt | refine zVi (by assumption) ?_ ?_) | go_size | omega)) ?_
  clear hB9
  rintro w10 ⟨hB10, HB7, HB9⟩
  clear sq7
  go_upto_region 9 with (first | (have _t := tok11; go_at_call 9; refine (DrawSquareClass_any (h2.below (by repeat' first | (with_reducible first | apply zRf | assumption | apply zDn | apply zDr | apply zAl | apply zSt | refine zVi (by assumption) ?_ ?_) | go_size))).mono ?_; rintro e w11 ⟨ta, tb, tn, td, rfl, hb11⟩; clear tok11 _t; have hz11 := hb11.size; (try simp only [World.size_alloc, World.size_setCell, World.size_drew, World.size_drewN'] at hz11)))
  have hB11 : Below w.heap.size w w11 := below_via hb11 (by assumption) (by first | exact hB10.size | go_size)
  have HB7 := HB7.trans (hb11.mono HB7.size)
  have sq7 := HB7.size
  have HB9 := HB9.trans (hb11.mono HB9.size)
  have sq9 := HB9.size
  clear hb11
  obtain ⟨cc, o3, R13, R15⟩ := cs_set2 ta tb tn td
  have T13 := fun W : World => Lib.hid (R13 W)
  have T15 := fun W : World => Lib.hid (R15 W)
  clear R13 R15
  refine chk (fun W => Below w.heap.size w W ∧ W.heap[w11.heap.size]? = some (.cells #[.int .i64 ta, .int .i64 tb] 30 (0, 0)) ∧ W.heap[w11.heap.size + 1]? = some (.cells #[.int .i64 tn, .int .i64 td] 32 (0, 0)) ∧ Below w7.heap.size w7 W ∧ Below w9.heap.size w9 W) (by refine ⟨?_, ?_, ?_, ?_, ?_⟩ <;> (repeat' first | (with_reducible first | assumption | (apply Ne.symm; assumption) | apply Nat.le_refl | apply Nat.le_add_right | apply zL | apply zRf | apply Wx.box | apply Wx.box4 | apply zWa | apply Wx.drew | apply zWn | apply bx_drew | apply bx_drewN | apply bx_set3 | apply bx_set2 | apply bx_set4 | apply bx_set1) | ((with_reducible apply bx_new); (focus (go_size; done))) | (with_reducible first | apply zOl | apply zFa | apply zDn | apply zDr | apply zAl | apply zSt | refine zVi (by assumption) ?_ ?_) | go_size | omega)) ?_
  clear hB11
  rintro w12 ⟨hB12, H_T_12, H_S_12, HB7, HB9⟩
  obtain ⟨k_T_12_0, k_T_12_1, f_T_12, l_T_12⟩ := bk2 H_T_12
  replace H_T_12 := Lib.hid H_T_12
  obtain ⟨k_S_12_0, k_S_12_1, f_S_12, l_S_12⟩ := bk2 H_S_12
  replace H_S_12 := Lib.hid H_S_12
  clear sq7 sq9
  go_upto_region 10 with (first | (have _t := tok13; go_at_call 10; (with_reducible refine ((T13 _).out).mono ?_); rintro e w13 ⟨rfl, hb13⟩; clear tok13 _t; have hz13 := hb13.size; (try simp only [World.size_alloc, World.size_setCell, World.size_drew, World.size_drewN'] at hz13)))
  have H_T_13 := (hb13.block (w11.heap.size) (blk_lt' H_T_12.out)).trans H_T_12.out
  clear k_T_12_0 k_T_12_1 f_T_12 H_T_12
  obtain ⟨k_T_13_0, k_T_13_1, f_T_13, l_T_13⟩ := bk2 H_T_13
  replace H_T_13 := Lib.hid H_T_13
  have H_S_13 := (hb13.block (w11.heap.size + 1) (blk_lt' H_S_12.out)).trans H_S_12.out
  clear k_S_12_0 k_S_12_1 f_S_12 H_S_12
  obtain ⟨k_S_13_0, k_S_13_1, f_S_13, l_S_13⟩ := bk2 H_S_13
  replace H_S_13 := Lib.hid H_S_13
  have hB13 : Below w.heap.size w w13 := below_via hb13 (by assumption) (by first | exact hB12.size | go_size)
  have HB7 := HB7.trans (hb13.mono HB7.size)
  have sq7 := HB7.size
  have HB9 := HB9.trans (hb13.mono HB9.size)
  have sq9 := HB9.size
  clear hb13 T13
  replace H_T_13 := H_T_13.out
  replace H_S_13 := H_S_13.out
  refine chk (fun W => Below w.heap.size w W ∧ W.heap[w11.heap.size]? = some (.cells #[.int .i64 ta, .int .i64 tb] 30 (0, 0)) ∧ W.heap[w11.heap.size + 1]? = some (.cells #[.int .i64 tn, .int .i64 td] 32 (0, 0)) ∧ Below w7.heap.size w7 W ∧ Below w9.heap.size w9 W) (by refine ⟨?_, ?_, ?_, ?_, ?_⟩ <;> (repeat' first | (with_reducible first | assumption | (apply Ne.symm; assumption) | apply Nat.le_refl | apply Nat.le_add_right | apply zL | apply zRf | apply Wx.box | apply Wx.box4 | apply zWa | apply Wx.drew | apply zWn | apply bx_drew | apply bx_drewN | apply bx_set3 | apply bx_set2 | apply bx_set4 | apply bx_set1) | ((with_reducible apply bx_new); (focus (go_size; done))) | (with_reducible first | apply zOl | apply zFa | apply zDn | apply zDr | apply zAl | apply zSt | refine zVi (by assumption) ?_ ?_) | go_size | omega)) ?_
  clear k_T_13_0 k_T_13_1 f_T_13 H_T_13
  clear k_S_13_0 k_S_13_1 f_S_13 H_S_13
  clear hB13
  rintro w14 ⟨hB14, H_T_14, H_S_14, HB7, HB9⟩
  obtain ⟨k_T_14_0, k_T_14_1, f_T_14, l_T_14⟩ := bk2 H_T_14
  replace H_T_14 := Lib.hid H_T_14
  obtain ⟨k_S_14_0, k_S_14_1, f_S_14, l_S_14⟩ := bk2 H_S_14
  replace H_S_14 := Lib.hid H_S_14
  clear sq7 sq9
  go_upto_region 11 with (first | (have _t := tok15; go_at_call 11; (with_reducible refine ((T15 _).out).mono ?_); rintro e w15 ⟨rfl, hb15⟩; clear tok15 _t; have hz15 := hb15.size; (try simp only [World.size_alloc, World.size_setCell, World.size_drew, World.size_drewN'] at hz15)))
  have H_T_15 := (hb15.block (w11.heap.size) (blk_lt' H_T_14.out)).trans H_T_14.out
  clear k_T_14_0 k_T_14_1 f_T_14 H_T_14
  obtain ⟨k_T_15_0, k_T_15_1, f_T_15, l_T_15⟩ := bk2 H_T_15
  replace H_T_15 := Lib.hid H_T_15
  have H_S_15 := (hb15.block (w11.heap.size + 1) (blk_lt' H_S_14.out)).trans H_S_14.out
  clear k_S_14_0 k_S_14_1 f_S_14 H_S_14
  obtain ⟨k_S_15_0, k_S_15_1, f_S_15, l_S_15⟩ := bk2 H_S_15
  replace H_S_15 := Lib.hid H_S_15
  have hB15 : Below w.heap.size w w15 := below_via hb15 (by assumption) (by first | exact hB14.size | go_size)
  have HB7 := HB7.trans (hb15.mono HB7.size)
  have sq7 := HB7.size
  have HB9 := HB9.trans (hb15.mono HB9.size)
  have sq9 := HB9.size
  clear hb15 T15
  replace H_T_15 := H_T_15.out
  replace H_S_15 := H_S_15.out
  refine chk (fun W => Below w.heap.size w W ∧ W.heap[w11.heap.size]? = some (.cells #[.int .i64 ta, .int .i64 tb] 30 (0, 0)) ∧ W.heap[w11.heap.size + 1]? = some (.cells #[.int .i64 tn, .int .i64 td] 32 (0, 0)) ∧ Below w7.heap.size w7 W ∧ Below w9.heap.size w9 W) (by refine ⟨?_, ?_, ?_, ?_, ?_⟩ <;> (repeat' first | (with_reducible first | assumption | (apply Ne.symm; assumption) | apply Nat.le_refl | apply Nat.le_add_right | apply zL | apply zRf | apply Wx.box | apply Wx.box4 | apply zWa | apply Wx.drew | apply zWn | apply bx_drew | apply bx_drewN | apply bx_set3 | apply bx_set2 | apply bx_set4 | apply bx_set1) | ((with_reducible apply bx_new); (focus (go_size; done))) | (with_reducible first | apply zOl | apply zFa | apply zDn | apply zDr | apply zAl | apply zSt | refine zVi (by assumption) ?_ ?_) | go_size | omega)) ?_
  clear k_T_15_0 k_T_15_1 f_T_15 H_T_15
  clear k_S_15_0 k_S_15_1 f_S_15 H_S_15
  clear hB15
  rintro w16 ⟨hB16, H_T_16, H_S_16, HB7, HB9⟩
  obtain ⟨k_T_16_0, k_T_16_1, f_T_16, l_T_16⟩ := bk2 H_T_16
  replace H_T_16 := Lib.hid H_T_16
  obtain ⟨k_S_16_0, k_S_16_1, f_S_16, l_S_16⟩ := bk2 H_S_16
  replace H_S_16 := Lib.hid H_S_16
  clear sq7 sq9
  go_upto_region 12 with (first | (have _t := tok17; go_at_call 12; refine (DrawPointOfQuartic_any (h2.below (by repeat' first | (with_reducible first | apply zRf | assumption | apply zDn | apply zDr | apply zAl | apply zSt | refine zVi (by assumption) ?_ ?_) | go_size))).mono ?_; rintro e w17 ⟨ua, ub, d, m, nn, e, rfl, hb17⟩; clear tok17 _t; have hz17 := hb17.size; (try simp only [World.size_alloc, World.size_setCell, World.size_drew, World.size_drewN'] at hz17)))
  have H_T_17 := (hb17.block (w11.heap.size) (blk_lt' H_T_16.out)).trans H_T_16.out
  clear k_T_16_0 k_T_16_1 f_T_16 H_T_16
  obtain ⟨k_T_17_0, k_T_17_1, f_T_17, l_T_17⟩ := bk2 H_T_17
  replace H_T_17 := Lib.hid H_T_17
  have H_S_17 := (hb17.block (w11.heap.size + 1) (blk_lt' H_S_16.out)).trans H_S_16.out
  clear k_S_16_0 k_S_16_1 f_S_16 H_S_16
  obtain ⟨k_S_17_0, k_S_17_1, f_S_17, l_S_17⟩ := bk2 H_S_17
  replace H_S_17 := Lib.hid H_S_17
  have hB17 : Below w.heap.size w w17 := below_via hb17 (by assumption) (by first | exact hB16.size | go_size)
  have HB7 := HB7.trans (hb17.mono HB7.size)
  have sq7 := HB7.size
  have HB9 := HB9.trans (hb17.mono HB9.size)
  have sq9 := HB9.size
  clear hb17
  obtain ⟨x1, x2, y1, y2, o5, R19, R21, F3⟩ := cs_set3 ua ub d m nn e
  have T19 := fun W : World => Lib.hid (R19 W)
  have T21 := fun W : World => Lib.hid (R21 W)
  clear R19 R21
  replace F3 := Lib.hid F3
  replace H_T_17 := H_T_17.out
  replace H_S_17 := H_S_17.out
  refine chk (fun W => Below w.heap.size w W ∧ W.heap[w11.heap.size]? = some (.cells #[.int .i64 ta, .int .i64 tb] 30 (0, 0)) ∧ W.heap[w11.heap.size + 1]? = some (.cells #[.int .i64 tn, .int .i64 td] 32 (0, 0)) ∧ W.heap[w17.heap.size]? = some (.cells #[.int .i64 ua, .int .i64 ub] 30 (0, 0)) ∧ Below w7.heap.size w7 W ∧ Below w9.heap.size w9 W) (by refine ⟨?_, ?_, ?_, ?_, ?_, ?_⟩ <;> (repeat' first | (with_reducible first | assumption | (apply Ne.symm; assumption) | apply Nat.le_refl | apply Nat.le_add_right | apply zL | apply zRf | apply Wx.box | apply Wx.box4 | apply zWa | apply Wx.drew | apply zWn | apply bx_drew | apply bx_drewN | apply bx_set3 | apply bx_set2 | apply bx_set4 | apply bx_set1) | ((with_reducible apply bx_new); (focus (go_size; done))) | (with_reducible first | apply zOl | apply zFa | apply zDn | apply zDr | apply zAl | apply zSt | refine zVi (by assumption) ?_ ?_) | go_size | omega)) ?_
  clear k_T_17_0 k_T_17_1 f_T_17 H_T_17
  clear k_S_17_0 k_S_17_1 f_S_17 H_S_17
  clear hB17
  rintro w18 ⟨hB18, H_T_18, H_S_18, H_U_18, HB7, HB9⟩
  obtain ⟨k_T_18_0, k_T_18_1, f_T_18, l_T_18⟩ := bk2 H_T_18
  replace H_T_18 := Lib.hid H_T_18
  obtain ⟨k_S_18_0, k_S_18_1, f_S_18, l_S_18⟩ := bk2 H_S_18
  replace H_S_18 := Lib.hid H_S_18
  obtain ⟨k_U_18_0, k_U_18_1, f_U_18, l_U_18⟩ := bk2 H_U_18
  replace H_U_18 := Lib.hid H_U_18
  clear sq7 sq9
  go_upto_region 13 with (first | (have _t := tok19; go_at_call 13; (with_reducible refine ((T19 _).out).mono ?_); rintro e w19 ⟨rfl, hb19⟩; clear tok19 _t; have hz19 := hb19.size; (try simp only [World.size_alloc, World.size_setCell, World.size_drew, World.size_drewN'] at hz19)))
  have H_T_19 := (hb19.block (w11.heap.size) (blk_lt' H_T_18.out)).trans H_T_18.out
  clear k_T_18_0 k_T_18_1 f_T_18 H_T_18
  obtain ⟨k_T_19_0, k_T_19_1, f_T_19, l_T_19⟩ := bk2 H_T_19
  replace H_T_19 := Lib.hid H_T_19
  have H_S_19 := (hb19.block (w11.heap.size + 1) (blk_lt' H_S_18.out)).trans H_S_18.out
  clear k_S_18_0 k_S_18_1 f_S_18 H_S_18
  obtain ⟨k_S_19_0, k_S_19_1, f_S_19, l_S_19⟩ := bk2 H_S_19
  replace H_S_19 := Lib.hid H_S_19
  have H_U_19 := (hb19.block (w17.heap.size) (blk_lt' H_U_18.out)).trans H_U_18.out
  clear k_U_18_0 k_U_18_1 f_U_18 H_U_18
  obtain ⟨k_U_19_0, k_U_19_1, f_U_19, l_U_19⟩ := bk2 H_U_19
  replace H_U_19 := Lib.hid H_U_19
  have hB19 : Below w.heap.size w w19 := below_via hb19 (by assumption) (by first | exact hB18.size | go_size)
  have HB7 := HB7.trans (hb19.mono HB7.size)
  have sq7 := HB7.size
  have HB9 := HB9.trans (hb19.mono HB9.size)
  have sq9 := HB9.size
  clear hb19 T19
  replace H_T_19 := H_T_19.out
  replace H_S_19 := H_S_19.out
  replace H_U_19 := H_U_19.out
  refine chk (fun W => Below w.heap.size w W ∧ W.heap[w11.heap.size]? = some (.cells #[.int .i64 ta, .int .i64 tb] 30 (0, 0)) ∧ W.heap[w11.heap.size + 1]? = some (.cells #[.int .i64 tn, .int .i64 td] 32 (0, 0)) ∧ W.heap[w17.heap.size]? = some (.cells #[.int .i64 ua, .int .i64 ub] 30 (0, 0)) ∧ W.heap[w19.heap.size]? = some (.cells #[.int .i64 x1, .int .i64 x2] 32 (0, 0)) ∧ W.heap[w19.heap.size + 1]? = some (.cells #[.int .i64 y1, .int .i64 y2] 32 (0, 0)) ∧ Below w7.heap.size w7 W ∧ Below w9.heap.size w9 W) (by refine ⟨?_, ?_, ?_, ?_, ?_, ?_, ?_, ?_⟩ <;> (repeat' first | (with_reducible first | assumption | (apply Ne.symm; assumption) | apply Nat.le_refl | apply Nat.le_add_right | apply zL | apply zRf | apply Wx.box | apply Wx.box4 | apply zWa | apply Wx.drew | apply zWn | apply bx_drew | apply bx_drewN | apply bx_set3 | apply bx_set2 | apply bx_set4 | apply bx_set1) | ((with_reducible apply bx_new); (focus (go_size; done))) | (with_reducible first | apply zOl | apply zFa | apply zDn | apply zDr | apply zAl | apply zSt | refine zVi (by assumption) ?_ ?_) | go_size | omega)) ?_
  clear k_T_19_0 k_T_19_1 f_T_19 H_T_19
  clear k_S_19_0 k_S_19_1 f_S_19 H_S_19
  clear k_U_19_0 k_U_19_1 f_U_19 H_U_19
  clear hB19
  rintro w20 ⟨hB20, H_T_20, H_S_20, H_U_20, H_A_20, H_B_20, HB7, HB9⟩
  obtain ⟨k_T_20_0, k_T_20_1, f_T_20, l_T_20⟩ := bk2 H_T_20
  replace H_T_20 := Lib.hid H_T_20
  obtain ⟨k_S_20_0, k_S_20_1, f_S_20, l_S_20⟩ := bk2 H_S_20
  replace H_S_20 := Lib.hid H_S_20
  obtain ⟨k_U_20_0, k_U_20_1, f_U_20, l_U_20⟩ := bk2 H_U_20
  replace H_U_20 := Lib.hid H_U_20
  obtain ⟨k_A_20_0, k_A_20_1, f_A_20, l_A_20⟩ := bk2 H_A_20
  replace H_A_20 := Lib.hid H_A_20
  obtain ⟨k_B_20_0, k_B_20_1, f_B_20, l_B_20⟩ := bk2 H_B_20
  replace H_B_20 := Lib.hid H_B_20
  clear sq7 sq9
  go_upto_region 14 with (first | (have _t := tok21; go_at_call 14; (with_reducible refine ((T21 _).out).mono ?_); rintro e w21 ⟨rfl, hb21⟩; clear tok21 _t; have hz21 := hb21.size; (try simp only [World.size_alloc, World.size_setCell, World.size_drew, World.size_drewN'] at hz21)))
  have H_T_21 := (hb21.block (w11.heap.size) (blk_lt' H_T_20.out)).trans H_T_20.out
  clear k_T_20_0 k_T_20_1 f_T_20 H_T_20
  obtain ⟨k_T_21_0, k_T_21_1, f_T_21, l_T_21⟩ := bk2 H_T_21
  replace H_T_21 := Lib.hid H_T_21
  have H_S_21 := (hb21.block (w11.heap.size + 1) (blk_lt' H_S_20.out)).trans H_S_20.out
  clear k_S_20_0 k_S_20_1 f_S_20 H_S_20
  obtain ⟨k_S_21_0, k_S_21_1, f_S_21, l_S_21⟩ := bk2 H_S_21
  replace H_S_21 := Lib.hid H_S_21
  have H_U_21 := (hb21.block (w17.heap.size) (blk_lt' H_U_20.out)).trans H_U_20.out
  clear k_U_20_0 k_U_20_1 f_U_20 H_U_20
  obtain ⟨k_U_21_0, k_U_21_1, f_U_21, l_U_21⟩ := bk2 H_U_21
  replace H_U_21 := Lib.hid H_U_21
  have H_A_21 := (hb21.block (w19.heap.size) (blk_lt' H_A_20.out)).trans H_A_20.out
  clear k_A_20_0 k_A_20_1 f_A_20 H_A_20
  obtain ⟨k_A_21_0, k_A_21_1, f_A_21, l_A_21⟩ := bk2 H_A_21
  replace H_A_21 := Lib.hid H_A_21
  have H_B_21 := (hb21.block (w19.heap.size + 1) (blk_lt' H_B_20.out)).trans H_B_20.out
  clear k_B_20_0 k_B_20_1 f_B_20 H_B_20
  obtain ⟨k_B_21_0, k_B_21_1, f_B_21, l_B_21⟩ := bk2 H_B_21
  replace H_B_21 := Lib.hid H_B_21
  have hB21 : Below w.heap.size w w21 := below_via hb21 (by assumption) (by first | exact hB20.size | go_size)
  have HB7 := HB7.trans (hb21.mono HB7.size)
  have sq7 := HB7.size
  have HB9 := HB9.trans (hb21.mono HB9.size)
  have sq9 := HB9.size
  clear hb21 T21
  replace H_T_21 := H_T_21.out
  replace H_S_21 := H_S_21.out
  replace H_U_21 := H_U_21.out
  replace H_A_21 := H_A_21.out
  replace H_B_21 := H_B_21.out
  refine chk (fun W => Below w.heap.size w W ∧ W.heap[w11.heap.size]? = some (.cells #[.int .i64 ta, .int .i64 tb] 30 (0, 0)) ∧ W.heap[w11.heap.size + 1]? = some (.cells #[.int .i64 tn, .int .i64 td] 32 (0, 0)) ∧ W.heap[w17.heap.size]? = some (.cells #[.int .i64 ua, .int .i64 ub] 30 (0, 0)) ∧ W.heap[w19.heap.size]? = some (.cells #[.int .i64 x1, .int .i64 x2] 32 (0, 0)) ∧ W.heap[w19.heap.size + 1]? = some (.cells #[.int .i64 y1, .int .i64 y2] 32 (0, 0)) ∧ W.heap[w21.heap.size]? = some (.cells #[.int .i64 x1, .int .i64 x2] 32 (0, 0)) ∧ W.heap[w21.heap.size + 1]? = some (.cells #[.int .i64 y1, .int .i64 y2] 32 (0, 0)) ∧ Below w7.heap.size w7 W ∧ Below w9.heap.size w9 W) (by refine ⟨?_, ?_, ?_, ?_, ?_, ?_, ?_, ?_, ?_, ?_⟩ <;> (repeat' first | (with_reducible first | assumption | (apply Ne.symm; assumption) | apply Nat.le_refl | apply Nat.le_add_right | apply zL | apply zRf | apply Wx.box | apply Wx.box4 | apply zWa | apply Wx.drew | apply zWn | apply bx_drew | apply bx_drewN | apply bx_set3 | apply bx_set2 | apply bx_set4 | apply bx_set1) | ((with_reducible apply bx_new); (focus (go_size; done))) | (with_reducible first | apply zOl | apply zFa | apply zDn | apply zDr | apply zAl | apply zSt | refine zVi (by assumption) ?_ ?_) | go_size | omega)) ?_
  clear k_T_21_0 k_T_21_1 f_T_21 H_T_21
  clear k_S_21_0 k_S_21_1 f_S_21 H_S_21
  clear k_U_21_0 k_U_21_1 f_U_21 H_U_21
  clear k_A_21_0 k_A_21_1 f_A_21 H_A_21
  clear k_B_21_0 k_B_21_1 f_B_21 H_B_21
  clear hB21
  rintro w22 ⟨hB22, H_T_22, H_S_22, H_U_22, H_A_22, H_B_22, H_X_22, H_Y_22, HB7, HB9⟩
  obtain ⟨k_T_22_0, k_T_22_1, f_T_22, l_T_22⟩ := bk2 H_T_22
  replace H_T_22 := Lib.hid H_T_22
  obtain ⟨k_S_22_0, k_S_22_1, f_S_22, l_S_22⟩ := bk2 H_S_22
  replace H_S_22 := Lib.hid H_S_22
  obtain ⟨k_U_22_0, k_U_22_1, f_U_22, l_U_22⟩ := bk2 H_U_22
  replace H_U_22 := Lib.hid H_U_22
  obtain ⟨k_A_22_0, k_A_22_1, f_A_22, l_A_22⟩ := bk2 H_A_22
  replace H_A_22 := Lib.hid H_A_22
  obtain ⟨k_B_22_0, k_B_22_1, f_B_22, l_B_22⟩ := bk2 H_B_22
  replace H_B_22 := Lib.hid H_B_22
  obtain ⟨k_X_22_0, k_X_22_1, f_X_22, l_X_22⟩ := bk2 H_X_22
  replace H_X_22 := Lib.hid H_X_22
  obtain ⟨k_Y_22_0, k_Y_22_1, f_Y_22, l_Y_22⟩ := bk2 H_Y_22
  replace H_Y_22 := Lib.hid H_Y_22
  clear sq7 sq9
  go_upto_region 15 with (first | (have _t := tok23; go_at_call 15; refine (DrawQuarticOf_any (h2.below (by repeat' first | (with_reducible first | apply zRf | assumption | apply zDn | apply zDr | apply zAl | apply zSt | refine zVi (by assumption) ?_ ?_) | go_size))).mono ?_; rintro e w23 ⟨wa, wb, wd, rfl, hb23⟩; clear tok23 _t; have hz23 := hb23.size; (try simp only [World.size_alloc, World.size_setCell, World.size_drew, World.size_drewN'] at hz23)))
  have H_T_23 := (hb23.block (w11.heap.size) (blk_lt' H_T_22.out)).trans H_T_22.out
  clear k_T_22_0 k_T_22_1 f_T_22 H_T_22
  obtain ⟨k_T_23_0, k_T_23_1, f_T_23, l_T_23⟩ := bk2 H_T_23
  replace H_T_23 := Lib.hid H_T_23
  have H_S_23 := (hb23.block (w11.heap.size + 1) (blk_lt' H_S_22.out)).trans H_S_22.out
  clear k_S_22_0 k_S_22_1 f_S_22 H_S_22
  obtain ⟨k_S_23_0, k_S_23_1, f_S_23, l_S_23⟩ := bk2 H_S_23
  replace H_S_23 := Lib.hid H_S_23
  have H_U_23 := (hb23.block (w17.heap.size) (blk_lt' H_U_22.out)).trans H_U_22.out
  clear k_U_22_0 k_U_22_1 f_U_22 H_U_22
  obtain ⟨k_U_23_0, k_U_23_1, f_U_23, l_U_23⟩ := bk2 H_U_23
  replace H_U_23 := Lib.hid H_U_23
  have H_A_23 := (hb23.block (w19.heap.size) (blk_lt' H_A_22.out)).trans H_A_22.out
  clear k_A_22_0 k_A_22_1 f_A_22 H_A_22
  obtain ⟨k_A_23_0, k_A_23_1, f_A_23, l_A_23⟩ := bk2 H_A_23
  replace H_A_23 := Lib.hid H_A_23
  have H_B_23 := (hb23.block (w19.heap.size + 1) (blk_lt' H_B_22.out)).trans H_B_22.out
  clear k_B_22_0 k_B_22_1 f_B_22 H_B_22
  obtain ⟨k_B_23_0, k_B_23_1, f_B_23, l_B_23⟩ := bk2 H_B_23
  replace H_B_23 := Lib.hid H_B_23
  have H_X_23 := (hb23.block (w21.heap.size) (blk_lt' H_X_22.out)).trans H_X_22.out
  clear k_X_22_0 k_X_22_1 f_X_22 H_X_22
  obtain ⟨k_X_23_0, k_X_23_1, f_X_23, l_X_23⟩ := bk2 H_X_23
  replace H_X_23 := Lib.hid H_X_23
  have H_Y_23 := (hb23.block (w21.heap.size + 1) (blk_lt' H_Y_22.out)).trans H_Y_22.out
  clear k_Y_22_0 k_Y_22_1 f_Y_22 H_Y_22
  obtain ⟨k_Y_23_0, k_Y_23_1, f_Y_23, l_Y_23⟩ := bk2 H_Y_23
  replace H_Y_23 := Lib.hid H_Y_23
  have hB23 : Below w.heap.size w w23 := below_via hb23 (by assumption) (by first | exact hB22.size | go_size)
  have HB7 := HB7.trans (hb23.mono HB7.size)
  have sq7 := HB7.size
  have HB9 := HB9.trans (hb23.mono HB9.size)
  have sq9 := HB9.size
  clear hb23
  obtain ⟨qd, qa, qc, o7, R25, R27, F4⟩ := cs_set4 wa wb wd
  have T25 := fun W : World => Lib.hid (R25 W)
  have T27 := fun W : World => Lib.hid (R27 W)
  clear R25 R27
  replace F4 := Lib.hid F4
  replace H_T_23 := H_T_23.out
  replace H_S_23 := H_S_23.out
  replace H_U_23 := H_U_23.out
  replace H_A_23 := H_A_23.out
  replace H_B_23 := H_B_23.out
  replace H_X_23 := H_X_23.out
  replace H_Y_23 := H_Y_23.out
  refine chk (fun W => Below w.heap.size w W ∧ W.heap[w11.heap.size]? = some (.cells #[.int .i64 ta, .int .i64 tb] 30 (0, 0)) ∧ W.heap[w11.heap.size + 1]? = some (.cells #[.int .i64 tn, .int .i64 td] 32 (0, 0)) ∧ W.heap[w17.heap.size]? = some (.cells #[.int .i64 ua, .int .i64 ub] 30 (0, 0)) ∧ W.heap[w19.heap.size]? = some (.cells #[.int .i64 x1, .int .i64 x2] 32 (0, 0)) ∧ W.heap[w19.heap.size + 1]? = some (.cells #[.int .i64 y1, .int .i64 y2] 32 (0, 0)) ∧ W.heap[w21.heap.size]? = some (.cells #[.int .i64 x1, .int .i64 x2] 32 (0, 0)) ∧ W.heap[w21.heap.size + 1]? = some (.cells #[.int .i64 y1, .int .i64 y2] 32 (0, 0)) ∧ W.heap[w23.heap.size]? = some (.cells #[.int .i64 wa, .int .i64 wb] 30 (0, 0)) ∧ Below w7.heap.size w7 W ∧ Below w9.heap.size w9 W) (by refine ⟨?_, ?_, ?_, ?_, ?_, ?_, ?_, ?_, ?_, ?_, ?_⟩ <;> (repeat' first | (with_reducible first | assumption | (apply Ne.symm; assumption) | apply Nat.le_refl | apply Nat.le_add_right | apply zL | apply zRf | apply Wx.box | apply Wx.box4 | apply zWa | apply Wx.drew | apply zWn | apply bx_drew | apply bx_drewN | apply bx_set3 | apply bx_set2 | apply bx_set4 | apply bx_set1) | ((with_reducible apply bx_new); (focus (go_size; done))) | (with_reducible first | apply zOl | apply zFa | apply zDn | apply zDr | apply zAl | apply zSt | refine zVi (by assumption) ?_ ?_) | go_size | omega)) ?_
  clear k_T_23_0 k_T_23_1 f_T_23 H_T_23
  clear k_S_23_0 k_S_23_1 f_S_23 H_S_23
  clear k_U_23_0 k_U_23_1 f_U_23 H_U_23
  clear k_A_23_0 k_A_23_1 f_A_23 H_A_23
  clear k_B_23_0 k_B_23_1 f_B_23 H_B_23
  clear k_X_23_0 k_X_23_1 f_X_23 H_X_23
  clear k_Y_23_0 k_Y_23_1 f_Y_23 H_Y_23
  clear hB23
  rintro w24 ⟨hB24, H_T_24, H_S_24, H_U_24, H_A_24, H_B_24, H_X_24, H_Y_24, H_W_24, HB7, HB9⟩
  obtain ⟨k_T_24_0, k_T_24_1, f_T_24, l_T_24⟩ := bk2 H_T_24
  replace H_T_24 := Lib.hid H_T_24
  obtain ⟨k_S_24_0, k_S_24_1, f_S_24, l_S_24⟩ := bk2 H_S_24
  replace H_S_24 := Lib.hid H_S_24
  obtain ⟨k_U_24_0, k_U_24_1, f_U_24, l_U_24⟩ := bk2 H_U_24
  replace H_U_24 := Lib.hid H_U_24
  obtain ⟨k_A_24_0, k_A_24_1, f_A_24, l_A_24⟩ := bk2 H_A_24
  replace H_A_24 := Lib.hid H_A_24
  obtain ⟨k_B_24_0, k_B_24_1, f_B_24, l_B_24⟩ := bk2 H_B_24
  replace H_B_24 := Lib.hid H_B_24
  obtain ⟨k_X_24_0, k_X_24_1, f_X_24, l_X_24⟩ := bk2 H_X_24
  replace H_X_24 := Lib.hid H_X_24
  obtain ⟨k_Y_24_0, k_Y_24_1, f_Y_24, l_Y_24⟩ := bk2 H_Y_24
  replace H_Y_24 := Lib.hid H_Y_24
  obtain ⟨k_W_24_0, k_W_24_1, f_W_24, l_W_24⟩ := bk2 H_W_24
  replace H_W_24 := Lib.hid H_W_24
  clear sq7 sq9
  go_upto_region 16 with (first | (have _t := tok25; go_at_call 16; (with_reducible refine ((T25 _).out).mono ?_); rintro e w25 ⟨rfl, hb25⟩; clear tok25 _t; have hz25 := hb25.size; (try simp only [World.size_alloc, World.size_setCell, World.size_drew, World.size_drewN'] at hz25)))
  have H_T_25 := (hb25.block (w11.heap.size) (blk_lt' H_T_24.out)).trans H_T_24.out
  clear k_T_24_0 k_T_24_1 f_T_24 H_T_24
  obtain ⟨k_T_25_0, k_T_25_1, f_T_25, l_T_25⟩ := bk2 H_T_25
  replace H_T_25 := Lib.hid H_T_25
  have H_S_25 := (hb25.block (w11.heap.size + 1) (blk_lt' H_S_24.out)).trans H_S_24.out
  clear k_S_24_0 k_S_24_1 f_S_24 H_S_24
  obtain ⟨k_S_25_0, k_S_25_1, f_S_25, l_S_25⟩ := bk2 H_S_25
  replace H_S_25 := Lib.hid H_S_25
  have H_U_25 := (hb25.block (w17.heap.size) (blk_lt' H_U_24.out)).trans H_U_24.out
  clear k_U_24_0 k_U_24_1 f_U_24 H_U_24
  obtain ⟨k_U_25_0, k_U_25_1, f_U_25, l_U_25⟩ := bk2 H_U_25
  replace H_U_25 := Lib.hid H_U_25
  have H_A_25 := (hb25.block (w19.heap.size) (blk_lt' H_A_24.out)).trans H_A_24.out
  clear k_A_24_0 k_A_24_1 f_A_24 H_A_24
  obtain ⟨k_A_25_0, k_A_25_1, f_A_25, l_A_25⟩ := bk2 H_A_25
  replace H_A_25 := Lib.hid H_A_25
  have H_B_25 := (hb25.block (w19.heap.size + 1) (blk_lt' H_B_24.out)).trans H_B_24.out
  clear k_B_24_0 k_B_24_1 f_B_24 H_B_24
  obtain ⟨k_B_25_0, k_B_25_1, f_B_25, l_B_25⟩ := bk2 H_B_25
  replace H_B_25 := Lib.hid H_B_25
  have H_X_25 := (hb25.block (w21.heap.size) (blk_lt' H_X_24.out)).trans H_X_24.out
  clear k_X_24_0 k_X_24_1 f_X_24 H_X_24
  obtain ⟨k_X_25_0, k_X_25_1, f_X_25, l_X_25⟩ := bk2 H_X_25
  replace H_X_25 := Lib.hid H_X_25
  have H_Y_25 := (hb25.block (w21.heap.size + 1) (blk_lt' H_Y_24.out)).trans H_Y_24.out
  clear k_Y_24_0 k_Y_24_1 f_Y_24 H_Y_24
  obtain ⟨k_Y_25_0, k_Y_25_1, f_Y_25, l_Y_25⟩ := bk2 H_Y_25
  replace H_Y_25 := Lib.hid H_Y_25
  have H_W_25 := (hb25.block (w23.heap.size) (blk_lt' H_W_24.out)).trans H_W_24.out
  clear k_W_24_0 k_W_24_1 f_W_24 H_W_24
  obtain ⟨k_W_25_0, k_W_25_1, f_W_25, l_W_25⟩ := bk2 H_W_25
  replace H_W_25 := Lib.hid H_W_25
  have hB25 : Below w.heap.size w w25 := below_via hb25 (by assumption) (by first | exact hB24.size | go_size)
  have HB7 := HB7.trans (hb25.mono HB7.size)
  have sq7 := HB7.size
  have HB9 := HB9.trans (hb25.mono HB9.size)
  have sq9 := HB9.size
  clear hb25 T25
  replace H_T_25 := H_T_25.out
  replace H_S_25 := H_S_25.out
  replace H_U_25 := H_U_25.out
  replace H_A_25 := H_A_25.out
  replace H_B_25 := H_B_25.out
  replace H_X_25 := H_X_25.out
  replace H_Y_25 := H_Y_25.out
  replace H_W_25 := H_W_25.out
  refine chk (fun W => Below w.heap.size w W ∧ W.heap[w11.heap.size]? = some (.cells #[.int .i64 ta, .int .i64 tb] 30 (0, 0)) ∧ W.heap[w11.heap.size + 1]? = some (.cells #[.int .i64 tn, .int .i64 td] 32 (0, 0)) ∧ W.heap[w17.heap.size]? = some (.cells #[.int .i64 ua, .int .i64 ub] 30 (0, 0)) ∧ W.heap[w19.heap.size]? = some (.cells #[.int .i64 x1, .int .i64 x2] 32 (0, 0)) ∧ W.heap[w19.heap.size + 1]? = some (.cells #[.int .i64 y1, .int .i64 y2] 32 (0, 0)) ∧ W.heap[w21.heap.size]? = some (.cells #[.int .i64 x1, .int .i64 x2] 32 (0, 0)) ∧ W.heap[w21.heap.size + 1]? = some (.cells #[.int .i64 y1, .int .i64 y2] 32 (0, 0)) ∧ W.heap[w23.heap.size]? = some (.cells #[.int .i64 wa, .int .i64 wb] 30 (0, 0)) ∧ W.heap[w25.heap.size]? = some (.cells #[.int .i64 qd, .int .i64 qa, .int .i64 qc] 43 (0, 0)) ∧ Below w7.heap.size w7 W ∧ Below w9.heap.size w9 W) (by refine ⟨?_, ?_, ?_, ?_, ?_, ?_, ?_, ?_, ?_, ?_, ?_, ?_⟩ <;> (repeat' first | (with_reducible first | assumption | (apply Ne.symm; assumption) | apply Nat.le_refl | apply Nat.le_add_right | apply zL | apply zRf | apply Wx.box | apply Wx.box4 | apply zWa | apply Wx.drew | apply zWn | apply bx_drew | apply bx_drewN | apply bx_set3 | apply bx_set2 | apply bx_set4 | apply bx_set1) | ((with_reducible apply bx_new); (focus (go_size; done))) | (with_reducible first | apply zOl | apply zFa | apply zDn | apply zDr | apply zAl | apply zSt | refine zVi (by assumption) ?_ ?_) | go_size | omega)) ?_
  clear k_T_25_0 k_T_25_1 f_T_25 H_T_25
  clear k_S_25_0 k_S_25_1 f_S_25 H_S_25
  clear k_U_25_0 k_U_25_1 f_U_25 H_U_25
  clear k_A_25_0 k_A_25_1 f_A_25 H_A_25
  clear k_B_25_0 k_B_25_1 f_B_25 H_B_25
  clear k_X_25_0 k_X_25_1 f_X_25 H_X_25
  clear k_Y_25_0 k_Y_25_1 f_Y_25 H_Y_25
  clear k_W_25_0 k_W_25_1 f_W_25 H_W_25
  clear hB25
  rintro w26 ⟨hB26, H_T_26, H_S_26, H_U_26, H_A_26, H_B_26, H_X_26, H_Y_26, H_W_26, H_R_26, HB7, HB9⟩
  obtain ⟨k_T_26_0, k_T_26_1, f_T_26, l_T_26⟩ := bk2 H_T_26
  replace H_T_26 := Lib.hid H_T_26
  obtain ⟨k_S_26_0, k_S_26_1, f_S_26, l_S_26⟩ := bk2 H_S_26
  replace H_S_26 := Lib.hid H_S_26
  obtain ⟨k_U_26_0, k_U_26_1, f_U_26, l_U_26⟩ := bk2 H_U_26
  replace H_U_26 := Lib.hid H_U_26
  obtain ⟨k_A_26_0, k_A_26_1, f_A_26, l_A_26⟩ := bk2 H_A_26
  replace H_A_26 := Lib.hid H_A_26
  obtain ⟨k_B_26_0, k_B_26_1, f_B_26, l_B_26⟩ := bk2 H_B_26
  replace H_B_26 := Lib.hid H_B_26
  obtain ⟨k_X_26_0, k_X_26_1, f_X_26, l_X_26⟩ := bk2 H_X_26
  replace H_X_26 := Lib.hid H_X_26
  obtain ⟨k_Y_26_0, k_Y_26_1, f_Y_26, l_Y_26⟩ := bk2 H_Y_26
  replace H_Y_26 := Lib.hid H_Y_26
  obtain ⟨k_W_26_0, k_W_26_1, f_W_26, l_W_26⟩ := bk2 H_W_26
  replace H_W_26 := Lib.hid H_W_26
  obtain ⟨k_R_26_0, k_R_26_1, k_R_26_2, f_R_26, l_R_26⟩ := bk3 H_R_26
  replace H_R_26 := Lib.hid H_R_26
  clear sq7 sq9
  go_upto_region 17 with (first | (have _t := tok27; go_at_call 17; (with_reducible refine ((T27 _).out).mono ?_); rintro e w27 ⟨rfl, hb27⟩; clear tok27 _t; have hz27 := hb27.size; (try simp only [World.size_alloc, World.size_setCell, World.size_drew, World.size_drewN'] at hz27)))
  have H_T_27 := (hb27.block (w11.heap.size) (blk_lt' H_T_26.out)).trans H_T_26.out
  clear k_T_26_0 k_T_26_1 f_T_26 H_T_26
  obtain ⟨k_T_27_0, k_T_27_1, f_T_27, l_T_27⟩ := bk2 H_T_27
  replace H_T_27 := Lib.hid H_T_27
  have H_S_27 := (hb27.block (w11.heap.size + 1) (blk_lt' H_S_26.out)).trans H_S_26.out
  clear k_S_26_0 k_S_26_1 f_S_26 H_S_26
  obtain ⟨k_S_27_0, k_S_27_1, f_S_27, l_S_27⟩ := bk2 H_S_27
  replace H_S_27 := Lib.hid H_S_27
  have H_U_27 := (hb27.block (w17.heap.size) (blk_lt' H_U_26.out)).trans H_U_26.out
  clear k_U_26_0 k_U_26_1 f_U_26 H_U_26
  obtain ⟨k_U_27_0, k_U_27_1, f_U_27, l_U_27⟩ := bk2 H_U_27
  replace H_U_27 := Lib.hid H_U_27
  have H_A_27 := (hb27.block (w19.heap.size) (blk_lt' H_A_26.out)).trans H_A_26.out
  clear k_A_26_0 k_A_26_1 f_A_26 H_A_26
  obtain ⟨k_A_27_0, k_A_27_1, f_A_27, l_A_27⟩ := bk2 H_A_27
  replace H_A_27 := Lib.hid H_A_27
  have H_B_27 := (hb27.block (w19.heap.size + 1) (blk_lt' H_B_26.out)).trans H_B_26.out
  clear k_B_26_0 k_B_26_1 f_B_26 H_B_26
  obtain ⟨k_B_27_0, k_B_27_1, f_B_27, l_B_27⟩ := bk2 H_B_27
  replace H_B_27 := Lib.hid H_B_27
  have H_X_27 := (hb27.block (w21.heap.size) (blk_lt' H_X_26.out)).trans H_X_26.out
  clear k_X_26_0 k_X_26_1 f_X_26 H_X_26
  obtain ⟨k_X_27_0, k_X_27_1, f_X_27, l_X_27⟩ := bk2 H_X_27
  replace H_X_27 := Lib.hid H_X_27
  have H_Y_27 := (hb27.block (w21.heap.size + 1) (blk_lt' H_Y_26.out)).trans H_Y_26.out
  clear k_Y_26_0 k_Y_26_1 f_Y_26 H_Y_26
  obtain ⟨k_Y_27_0, k_Y_27_1, f_Y_27, l_Y_27⟩ := bk2 H_Y_27
  replace H_Y_27 := Lib.hid H_Y_27
  have H_W_27 := (hb27.block (w23.heap.size) (blk_lt' H_W_26.out)).trans H_W_26.out
  clear k_W_26_0 k_W_26_1 f_W_26 H_W_26
  obtain ⟨k_W_27_0, k_W_27_1, f_W_27, l_W_27⟩ := bk2 H_W_27
  replace H_W_27 := Lib.hid H_W_27
  have H_R_27 := (hb27.block (w25.heap.size) (blk_lt' H_R_26.out)).trans H_R_26.out
  clear k_R_26_0 k_R_26_1 k_R_26_2 f_R_26 H_R_26
  obtain ⟨k_R_27_0, k_R_27_1, k_R_27_2, f_R_27, l_R_27⟩ := bk3 H_R_27
  replace H_R_27 := Lib.hid H_R_27
  have hB27 : Below w.heap.size w w27 := below_via hb27 (by assumption) (by first | exact hB26.size | go_size)
  have HB7 := HB7.trans (hb27.mono HB7.size)
  have sq7 := HB7.size
  have HB9 := HB9.trans (hb27.mono HB9.size)
  have sq9 := HB9.size
  clear hb27 T27
  replace H_T_27 := H_T_27.out
  replace H_S_27 := H_S_27.out
  replace H_U_27 := H_U_27.out
  replace H_A_27 := H_A_27.out
  replace H_B_27 := H_B_27.out
  replace H_X_27 := H_X_27.out
  replace H_Y_27 := H_Y_27.out
  replace H_W_27 := H_W_27.out
  replace H_R_27 := H_R_27.out
  refine chk (fun W => Below w.heap.size w W ∧ W.heap[w11.heap.size]? = some (.cells #[.int .i64 ta, .int .i64 tb] 30 (0, 0)) ∧ W.heap[w11.heap.size + 1]? = some (.cells #[.int .i64 tn, .int .i64 td] 32 (0, 0)) ∧ W.heap[w17.heap.size]? = some (.cells #[.int .i64 ua, .int .i64 ub] 30 (0, 0)) ∧ W.heap[w19.heap.size]? = some (.cells #[.int .i64 x1, .int .i64 x2] 32 (0, 0)) ∧ W.heap[w19.heap.size + 1]? = some (.cells #[.int .i64 y1, .int .i64 y2] 32 (0, 0)) ∧ W.heap[w21.heap.size]? = some (.cells #[.int .i64 x1, .int .i64 x2] 32 (0, 0)) ∧ W.heap[w21.heap.size + 1]? = some (.cells #[.int .i64 y1, .int .i64 y2] 32 (0, 0)) ∧ W.heap[w23.heap.size]? = some (.cells #[.int .i64 wa, .int .i64 wb] 30 (0, 0)) ∧ W.heap[w25.heap.size]? = some (.cells #[.int .i64 qd, .int .i64 qa, .int .i64 qc] 43 (0, 0)) ∧ W.heap[w27.heap.size]? = some (.cells #[.int .i64 qd, .int .i64 qa, .int .i64 qc] 43 (0, 0)) ∧ Below w7.heap.size w7 W ∧ Below w9.heap.size w9 W) (by refine ⟨?_, ?_, ?_, ?_, ?_, ?_, ?_, ?_, ?_, ?_, ?_, ?_, ?_⟩ <;> (repeat' first | (with_reducible first | assumption | (apply Ne.symm; assumption) | apply Nat.le_refl | apply Nat.le_add_right | apply zL | apply zRf | apply Wx.box | apply Wx.box4 | apply zWa | apply Wx.drew | apply zWn | apply bx_drew | apply bx_drewN | apply bx_set3 | apply bx_set2 | apply bx_set4 | apply bx_set1) | ((with_reducible apply bx_new); (focus (go_size; done))) | (with_reducible first | apply zOl | apply zFa | apply zDn | apply zDr | apply zAl | apply zSt | refine zVi (by assumption) ?_ ?_) | go_size | omega)) ?_
  clear k_T_27_0 k_T_27_1 f_T_27 H_T_27
  clear k_S_27_0 k_S_27_1 f_S_27 H_S_27
  clear k_U_27_0 k_U_27_1 f_U_27 H_U_27
  clear k_A_27_0 k_A_27_1 f_A_27 H_A_27
  clear k_B_27_0 k_B_27_1 f_B_27 H_B_27
  clear k_X_27_0 k_X_27_1 f_X_27 H_X_27
  clear k_Y_27_0 k_Y_27_1 f_Y_27 H_Y_27
  clear k_W_27_0 k_W_27_1 f_W_27 H_W_27
  clear k_R_27_0 k_R_27_1 k_R_27_2 f_R_27 H_R_27
  clear hB27
  rintro w28 ⟨hB28, H_T_28, H_S_28, H_U_28, H_A_28, H_B_28, H_X_28, H_Y_28, H_W_28, H_R_28, H_Q_28, HB7, HB9⟩
  obtain ⟨k_T_28_0, k_T_28_1, f_T_28, l_T_28⟩ := bk2 H_T_28
  replace H_T_28 := Lib.hid H_T_28
  obtain ⟨k_S_28_0, k_S_28_1, f_S_28, l_S_28⟩ := bk2 H_S_28
  replace H_S_28 := Lib.hid H_S_28
  obtain ⟨k_U_28_0, k_U_28_1, f_U_28, l_U_28⟩ := bk2 H_U_28
  replace H_U_28 := Lib.hid H_U_28
  obtain ⟨k_A_28_0, k_A_28_1, f_A_28, l_A_28⟩ := bk2 H_A_28
  replace H_A_28 := Lib.hid H_A_28
  obtain ⟨k_B_28_0, k_B_28_1, f_B_28, l_B_28⟩ := bk2 H_B_28
  replace H_B_28 := Lib.hid H_B_28
  obtain ⟨k_X_28_0, k_X_28_1, f_X_28, l_X_28⟩ := bk2 H_X_28
  replace H_X_28 := Lib.hid H_X_28
  obtain ⟨k_Y_28_0, k_Y_28_1, f_Y_28, l_Y_28⟩ := bk2 H_Y_28
  replace H_Y_28 := Lib.hid H_Y_28
  obtain ⟨k_W_28_0, k_W_28_1, f_W_28, l_W_28⟩ := bk2 H_W_28
  replace H_W_28 := Lib.hid H_W_28
  obtain ⟨k_R_28_0, k_R_28_1, k_R_28_2, f_R_28, l_R_28⟩ := bk3 H_R_28
  replace H_R_28 := Lib.hid H_R_28
  obtain ⟨k_Q_28_0, k_Q_28_1, k_Q_28_2, f_Q_28, l_Q_28⟩ := bk3 H_Q_28
  replace H_Q_28 := Lib.hid H_Q_28
  clear sq7 sq9
  go_upto_region 18 with (first | (have _t := tok29; go_at_call 18; refine (DrawTwoTorsion_any (h2.below (by repeat' first | (with_reducible first | apply zRf | assumption | apply zDn | apply zDr | apply zAl | apply zSt | refine zVi (by assumption) ?_ ?_) | go_size))).mono ?_; rintro e w29 ⟨fa, fb, rfl, hb29⟩; clear tok29 _t; have hz29 := hb29.size; (try simp only [World.size_alloc, World.size_setCell, World.size_drew, World.size_drewN'] at hz29)))
  have H_T_29 := (hb29.block (w11.heap.size) (blk_lt' H_T_28.out)).trans H_T_28.out
  clear k_T_28_0 k_T_28_1 f_T_28 H_T_28
  obtain ⟨k_T_29_0, k_T_29_1, f_T_29, l_T_29⟩ := bk2 H_T_29
  replace H_T_29 := Lib.hid H_T_29
  have H_S_29 := (hb29.block (w11.heap.size + 1) (blk_lt' H_S_28.out)).trans H_S_28.out
  clear k_S_28_0 k_S_28_1 f_S_28 H_S_28
  obtain ⟨k_S_29_0, k_S_29_1, f_S_29, l_S_29⟩ := bk2 H_S_29
  replace H_S_29 := Lib.hid H_S_29
  have H_U_29 := (hb29.block (w17.heap.size) (blk_lt' H_U_28.out)).trans H_U_28.out
  clear k_U_28_0 k_U_28_1 f_U_28 H_U_28
  obtain ⟨k_U_29_0, k_U_29_1, f_U_29, l_U_29⟩ := bk2 H_U_29
  replace H_U_29 := Lib.hid H_U_29
  have H_A_29 := (hb29.block (w19.heap.size) (blk_lt' H_A_28.out)).trans H_A_28.out
  clear k_A_28_0 k_A_28_1 f_A_28 H_A_28
  obtain ⟨k_A_29_0, k_A_29_1, f_A_29, l_A_29⟩ := bk2 H_A_29
  replace H_A_29 := Lib.hid H_A_29
  have H_B_29 := (hb29.block (w19.heap.size + 1) (blk_lt' H_B_28.out)).trans H_B_28.out
  clear k_B_28_0 k_B_28_1 f_B_28 H_B_28
  obtain ⟨k_B_29_0, k_B_29_1, f_B_29, l_B_29⟩ := bk2 H_B_29
  replace H_B_29 := Lib.hid H_B_29
  have H_X_29 := (hb29.block (w21.heap.size) (blk_lt' H_X_28.out)).trans H_X_28.out
  clear k_X_28_0 k_X_28_1 f_X_28 H_X_28
  obtain ⟨k_X_29_0, k_X_29_1, f_X_29, l_X_29⟩ := bk2 H_X_29
  replace H_X_29 := Lib.hid H_X_29
  have H_Y_29 := (hb29.block (w21.heap.size + 1) (blk_lt' H_Y_28.out)).trans H_Y_28.out
  clear k_Y_28_0 k_Y_28_1 f_Y_28 H_Y_28
  obtain ⟨k_Y_29_0, k_Y_29_1, f_Y_29, l_Y_29⟩ := bk2 H_Y_29
  replace H_Y_29 := Lib.hid H_Y_29
  have H_W_29 := (hb29.block (w23.heap.size) (blk_lt' H_W_28.out)).trans H_W_28.out
  clear k_W_28_0 k_W_28_1 f_W_28 H_W_28
  obtain ⟨k_W_29_0, k_W_29_1, f_W_29, l_W_29⟩ := bk2 H_W_29
  replace H_W_29 := Lib.hid H_W_29
  have H_R_29 := (hb29.block (w25.heap.size) (blk_lt' H_R_28.out)).trans H_R_28.out
  clear k_R_28_0 k_R_28_1 k_R_28_2 f_R_28 H_R_28
  obtain ⟨k_R_29_0, k_R_29_1, k_R_29_2, f_R_29, l_R_29⟩ := bk3 H_R_29
  replace H_R_29 := Lib.hid H_R_29
  have H_Q_29 := (hb29.block (w27.heap.size) (blk_lt' H_Q_28.out)).trans H_Q_28.out
  clear k_Q_28_0 k_Q_28_1 k_Q_28_2 f_Q_28 H_Q_28
  obtain ⟨k_Q_29_0, k_Q_29_1, k_Q_29_2, f_Q_29, l_Q_29⟩ := bk3 H_Q_29
  replace H_Q_29 := Lib.hid H_Q_29
  have hB29 : Below w.heap.size w w29 := below_via hb29 (by assumption) (by first | exact hB28.size | go_size)
  have HB7 := HB7.trans (hb29.mono HB7.size)
  have sq7 := HB7.size
  have HB9 := HB9.trans (hb29.mono HB9.size)
  have sq9 := HB9.size
  clear hb29
  obtain ⟨v, o9, R31, R33, R36, F5⟩ := cs_set5 fa fb
  have T31 := fun W : World => Lib.hid (R31 W)
  have T33 := fun W : World => Lib.hid (R33 W)
  have T36 := fun W : World => Lib.hid (R36 W)
  clear R31 R33 R36
  replace F5 := Lib.hid F5
  replace H_T_29 := H_T_29.out
  replace H_S_29 := H_S_29.out
  replace H_U_29 := H_U_29.out
  replace H_A_29 := H_A_29.out
  replace H_B_29 := H_B_29.out
  replace H_X_29 := H_X_29.out
  replace H_Y_29 := H_Y_29.out
  replace H_W_29 := H_W_29.out
  replace H_R_29 := H_R_29.out
  replace H_Q_29 := H_Q_29.out
  refine chk (fun W => Below w.heap.size w W ∧ W.heap[w11.heap.size]? = some (.cells #[.int .i64 ta, .int .i64 tb] 30 (0, 0)) ∧ W.heap[w11.heap.size + 1]? = some (.cells #[.int .i64 tn, .int .i64 td] 32 (0, 0)) ∧ W.heap[w17.heap.size]? = some (.cells #[.int .i64 ua, .int .i64 ub] 30 (0, 0)) ∧ W.heap[w19.heap.size]? = some (.cells #[.int .i64 x1, .int .i64 x2] 32 (0, 0)) ∧ W.heap[w19.heap.size + 1]? = some (.cells #[.int .i64 y1, .int .i64 y2] 32 (0, 0)) ∧ W.heap[w21.heap.size]? = some (.cells #[.int .i64 x1, .int .i64 x2] 32 (0, 0)) ∧ W.heap[w21.heap.size + 1]? = some (.cells #[.int .i64 y1, .int .i64 y2] 32 (0, 0)) ∧ W.heap[w23.heap.size]? = some (.cells #[.int .i64 wa, .int .i64 wb] 30 (0, 0)) ∧ W.heap[w25.heap.size]? = some (.cells #[.int .i64 qd, .int .i64 qa, .int .i64 qc] 43 (0, 0)) ∧ W.heap[w27.heap.size]? = some (.cells #[.int .i64 qd, .int .i64 qa, .int .i64 qc] 43 (0, 0)) ∧ W.heap[w29.heap.size]? = some (.cells #[.int .i64 fa, .int .i64 fb] 30 (0, 0)) ∧ Below w7.heap.size w7 W ∧ Below w9.heap.size w9 W) (by refine ⟨?_, ?_, ?_, ?_, ?_, ?_, ?_, ?_, ?_, ?_, ?_, ?_, ?_, ?_⟩ <;> (repeat' first | (with_reducible first | assumption | (apply Ne.symm; assumption) | apply Nat.le_refl | apply Nat.le_add_right | apply zL | apply zRf | apply Wx.box | apply Wx.box4 | apply zWa | apply Wx.drew | apply zWn | apply bx_drew | apply bx_drewN | apply bx_set3 | apply bx_set2 | apply bx_set4 | apply bx_set1) | ((with_reducible apply bx_new); (focus (go_size; done))) | (with_reducible first | apply zOl | apply zFa | apply zDn | apply zDr | apply zAl | apply zSt | refine zVi (by assumption) ?_ ?_) | go_size | omega)) ?_
  clear k_T_29_0 k_T_29_1 f_T_29 H_T_29
  clear k_S_29_0 k_S_29_1 f_S_29 H_S_29
  clear k_U_29_0 k_U_29_1 f_U_29 H_U_29
  clear k_A_29_0 k_A_29_1 f_A_29 H_A_29
  clear k_B_29_0 k_B_29_1 f_B_29 H_B_29
  clear k_X_29_0 k_X_29_1 f_X_29 H_X_29
  clear k_Y_29_0 k_Y_29_1 f_Y_29 H_Y_29
  clear k_W_29_0 k_W_29_1 f_W_29 H_W_29
  clear k_R_29_0 k_R_29_1 k_R_29_2 f_R_29 H_R_29
  clear k_Q_29_0 k_Q_29_1 k_Q_29_2 f_Q_29 H_Q_29
  clear hB29
  rintro w30 ⟨hB30, H_T_30, H_S_30, H_U_30, H_A_30, H_B_30, H_X_30, H_Y_30, H_W_30, H_R_30, H_Q_30, H_F_30, HB7, HB9⟩
  obtain ⟨k_T_30_0, k_T_30_1, f_T_30, l_T_30⟩ := bk2 H_T_30
  replace H_T_30 := Lib.hid H_T_30
  obtain ⟨k_S_30_0, k_S_30_1, f_S_30, l_S_30⟩ := bk2 H_S_30
  replace H_S_30 := Lib.hid H_S_30
  obtain ⟨k_U_30_0, k_U_30_1, f_U_30, l_U_30⟩ := bk2 H_U_30
  replace H_U_30 := Lib.hid H_U_30
  obtain ⟨k_A_30_0, k_A_30_1, f_A_30, l_A_30⟩ := bk2 H_A_30
  replace H_A_30 := Lib.hid H_A_30
  obtain ⟨k_B_30_0, k_B_30_1, f_B_30, l_B_30⟩ := bk2 H_B_30
  replace H_B_30 := Lib.hid H_B_30
  obtain ⟨k_X_30_0, k_X_30_1, f_X_30, l_X_30⟩ := bk2 H_X_30
  replace H_X_30 := Lib.hid H_X_30
  obtain ⟨k_Y_30_0, k_Y_30_1, f_Y_30, l_Y_30⟩ := bk2 H_Y_30
  replace H_Y_30 := Lib.hid H_Y_30
  obtain ⟨k_W_30_0, k_W_30_1, f_W_30, l_W_30⟩ := bk2 H_W_30
  replace H_W_30 := Lib.hid H_W_30
  obtain ⟨k_R_30_0, k_R_30_1, k_R_30_2, f_R_30, l_R_30⟩ := bk3 H_R_30
  replace H_R_30 := Lib.hid H_R_30
  obtain ⟨k_Q_30_0, k_Q_30_1, k_Q_30_2, f_Q_30, l_Q_30⟩ := bk3 H_Q_30
  replace H_Q_30 := Lib.hid H_Q_30
  obtain ⟨k_F_30_0, k_F_30_1, f_F_30, l_F_30⟩ := bk2 H_F_30
  replace H_F_30 := Lib.hid H_F_30
  clear sq7 sq9
  clear h2
  go_upto_region 19 with (first | (have _t := tok31; go_at_call 19; (with_reducible refine ((T31 _).out).mono ?_); rintro e w31 ⟨rfl, hb31⟩; clear tok31 _t; have hz31 := hb31.size; (try simp only [World.size_alloc, World.size_setCell, World.size_drew, World.size_drewN'] at hz31)))
  have H_T_31 := (hb31.block (w11.heap.size) (blk_lt' H_T_30.out)).trans H_T_30.out
  clear k_T_30_0 k_T_30_1 f_T_30 H_T_30
  obtain ⟨k_T_31_0, k_T_31_1, f_T_31, l_T_31⟩ := bk2 H_T_31
  replace H_T_31 := Lib.hid H_T_31
  have H_S_31 := (hb31.block (w11.heap.size + 1) (blk_lt' H_S_30.out)).trans H_S_30.out
  clear k_S_30_0 k_S_30_1 f_S_30 H_S_30
  obtain ⟨k_S_31_0, k_S_31_1, f_S_31, l_S_31⟩ := bk2 H_S_31
  replace H_S_31 := Lib.hid H_S_31
  have H_U_31 := (hb31.block (w17.heap.size) (blk_lt' H_U_30.out)).trans H_U_30.out
  clear k_U_30_0 k_U_30_1 f_U_30 H_U_30
  obtain ⟨k_U_31_0, k_U_31_1, f_U_31, l_U_31⟩ := bk2 H_U_31
  replace H_U_31 := Lib.hid H_U_31
  have H_A_31 := (hb31.block (w19.heap.size) (blk_lt' H_A_30.out)).trans H_A_30.out
  clear k_A_30_0 k_A_30_1 f_A_30 H_A_30
  obtain ⟨k_A_31_0, k_A_31_1, f_A_31, l_A_31⟩ := bk2 H_A_31
  replace H_A_31 := Lib.hid H_A_31
  have H_B_31 := (hb31.block (w19.heap.size + 1) (blk_lt' H_B_30.out)).trans H_B_30.out
  clear k_B_30_0 k_B_30_1 f_B_30 H_B_30
  obtain ⟨k_B_31_0, k_B_31_1, f_B_31, l_B_31⟩ := bk2 H_B_31
  replace H_B_31 := Lib.hid H_B_31
  have H_X_31 := (hb31.block (w21.heap.size) (blk_lt' H_X_30.out)).trans H_X_30.out
  clear k_X_30_0 k_X_30_1 f_X_30 H_X_30
  obtain ⟨k_X_31_0, k_X_31_1, f_X_31, l_X_31⟩ := bk2 H_X_31
  replace H_X_31 := Lib.hid H_X_31
  have H_Y_31 := (hb31.block (w21.heap.size + 1) (blk_lt' H_Y_30.out)).trans H_Y_30.out
  clear k_Y_30_0 k_Y_30_1 f_Y_30 H_Y_30
  obtain ⟨k_Y_31_0, k_Y_31_1, f_Y_31, l_Y_31⟩ := bk2 H_Y_31
  replace H_Y_31 := Lib.hid H_Y_31
  have H_W_31 := (hb31.block (w23.heap.size) (blk_lt' H_W_30.out)).trans H_W_30.out
  clear k_W_30_0 k_W_30_1 f_W_30 H_W_30
  obtain ⟨k_W_31_0, k_W_31_1, f_W_31, l_W_31⟩ := bk2 H_W_31
  replace H_W_31 := Lib.hid H_W_31
  have H_R_31 := (hb31.block (w25.heap.size) (blk_lt' H_R_30.out)).trans H_R_30.out
  clear k_R_30_0 k_R_30_1 k_R_30_2 f_R_30 H_R_30
  obtain ⟨k_R_31_0, k_R_31_1, k_R_31_2, f_R_31, l_R_31⟩ := bk3 H_R_31
  replace H_R_31 := Lib.hid H_R_31
  have H_Q_31 := (hb31.block (w27.heap.size) (blk_lt' H_Q_30.out)).trans H_Q_30.out
  clear k_Q_30_0 k_Q_30_1 k_Q_30_2 f_Q_30 H_Q_30
  obtain ⟨k_Q_31_0, k_Q_31_1, k_Q_31_2, f_Q_31, l_Q_31⟩ := bk3 H_Q_31
  replace H_Q_31 := Lib.hid H_Q_31
  have H_F_31 := (hb31.block (w29.heap.size) (blk_lt' H_F_30.out)).trans H_F_30.out
  clear k_F_30_0 k_F_30_1 f_F_30 H_F_30
  obtain ⟨k_F_31_0, k_F_31_1, f_F_31, l_F_31⟩ := bk2 H_F_31
  replace H_F_31 := Lib.hid H_F_31
  have hB31 : Below w.heap.size w w31 := below_via hb31 (by assumption) (by first | exact hB30.size | go_size)
  have HB7 := HB7.trans (hb31.mono HB7.size)
  have sq7 := HB7.size
  have HB9 := HB9.trans (hb31.mono HB9.size)
  have sq9 := HB9.size
  clear hb31 T31
  replace H_T_31 := H_T_31.out
  replace H_S_31 := H_S_31.out
  replace H_U_31 := H_U_31.out
  replace H_A_31 := H_A_31.out
  replace H_B_31 := H_B_31.out
  replace H_X_31 := H_X_31.out
  replace H_Y_31 := H_Y_31.out
  replace H_W_31 := H_W_31.out
  replace H_R_31 := H_R_31.out
  replace H_Q_31 := H_Q_31.out
  replace H_F_31 := H_F_31.out
  refine chk (fun W => Below w.heap.size w W ∧ W.heap[w11.heap.size]? = some (.cells #[.int .i64 ta, .int .i64 tb] 30 (0, 0)) ∧ W.heap[w11.heap.size + 1]? = some (.cells #[.int .i64 tn, .int .i64 td] 32 (0, 0)) ∧ W.heap[w17.heap.size]? = some (.cells #[.int .i64 ua, .int .i64 ub] 30 (0, 0)) ∧ W.heap[w19.heap.size]? = some (.cells #[.int .i64 x1, .int .i64 x2] 32 (0, 0)) ∧ W.heap[w19.heap.size + 1]? = some (.cells #[.int .i64 y1, .int .i64 y2] 32 (0, 0)) ∧ W.heap[w21.heap.size]? = some (.cells #[.int .i64 x1, .int .i64 x2] 32 (0, 0)) ∧ W.heap[w21.heap.size + 1]? = some (.cells #[.int .i64 y1, .int .i64 y2] 32 (0, 0)) ∧ W.heap[w23.heap.size]? = some (.cells #[.int .i64 wa, .int .i64 wb] 30 (0, 0)) ∧ W.heap[w25.heap.size]? = some (.cells #[.int .i64 qd, .int .i64 qa, .int .i64 qc] 43 (0, 0)) ∧ W.heap[w27.heap.size]? = some (.cells #[.int .i64 qd, .int .i64 qa, .int .i64 qc] 43 (0, 0)) ∧ W.heap[w29.heap.size]? = some (.cells #[.int .i64 fa, .int .i64 fb] 30 (0, 0)) ∧ Below w7.heap.size w7 W ∧ Below w9.heap.size w9 W) (by refine ⟨?_, ?_, ?_, ?_, ?_, ?_, ?_, ?_, ?_, ?_, ?_, ?_, ?_, ?_⟩ <;> (repeat' first | (with_reducible first | assumption | (apply Ne.symm; assumption) | apply Nat.le_refl | apply Nat.le_add_right | apply zL | apply zRf | apply Wx.box | apply Wx.box4 | apply zWa | apply Wx.drew | apply zWn | apply bx_drew | apply bx_drewN | apply bx_set3 | apply bx_set2 | apply bx_set4 | apply bx_set1) | ((with_reducible apply bx_new); (focus (go_size; done))) | (with_reducible first | apply zOl | apply zFa | apply zDn | apply zDr | apply zAl | apply zSt | refine zVi (by assumption) ?_ ?_) | go_size | omega)) ?_
  clear k_T_31_0 k_T_31_1 f_T_31 H_T_31
  clear k_S_31_0 k_S_31_1 f_S_31 H_S_31
  clear k_U_31_0 k_U_31_1 f_U_31 H_U_31
  clear k_A_31_0 k_A_31_1 f_A_31 H_A_31
  clear k_B_31_0 k_B_31_1 f_B_31 H_B_31
  clear k_X_31_0 k_X_31_1 f_X_31 H_X_31
  clear k_Y_31_0 k_Y_31_1 f_Y_31 H_Y_31
  clear k_W_31_0 k_W_31_1 f_W_31 H_W_31
  clear k_R_31_0 k_R_31_1 k_R_31_2 f_R_31 H_R_31
  clear k_Q_31_0 k_Q_31_1 k_Q_31_2 f_Q_31 H_Q_31
  clear k_F_31_0 k_F_31_1 f_F_31 H_F_31
  clear hB31
  rintro w32 ⟨hB32, H_T_32, H_S_32, H_U_32, H_A_32, H_B_32, H_X_32, H_Y_32, H_W_32, H_R_32, H_Q_32, H_F_32, HB7, HB9⟩
  obtain ⟨k_T_32_0, k_T_32_1, f_T_32, l_T_32⟩ := bk2 H_T_32
  replace H_T_32 := Lib.hid H_T_32
  obtain ⟨k_S_32_0, k_S_32_1, f_S_32, l_S_32⟩ := bk2 H_S_32
  replace H_S_32 := Lib.hid H_S_32
  obtain ⟨k_U_32_0, k_U_32_1, f_U_32, l_U_32⟩ := bk2 H_U_32
  replace H_U_32 := Lib.hid H_U_32
  obtain ⟨k_A_32_0, k_A_32_1, f_A_32, l_A_32⟩ := bk2 H_A_32
  replace H_A_32 := Lib.hid H_A_32
  obtain ⟨k_B_32_0, k_B_32_1, f_B_32, l_B_32⟩ := bk2 H_B_32
  replace H_B_32 := Lib.hid H_B_32
  obtain ⟨k_X_32_0, k_X_32_1, f_X_32, l_X_32⟩ := bk2 H_X_32
  replace H_X_32 := Lib.hid H_X_32
  obtain ⟨k_Y_32_0, k_Y_32_1, f_Y_32, l_Y_32⟩ := bk2 H_Y_32
  replace H_Y_32 := Lib.hid H_Y_32
  obtain ⟨k_W_32_0, k_W_32_1, f_W_32, l_W_32⟩ := bk2 H_W_32
  replace H_W_32 := Lib.hid H_W_32
  obtain ⟨k_R_32_0, k_R_32_1, k_R_32_2, f_R_32, l_R_32⟩ := bk3 H_R_32
  replace H_R_32 := Lib.hid H_R_32
  obtain ⟨k_Q_32_0, k_Q_32_1, k_Q_32_2, f_Q_32, l_Q_32⟩ := bk3 H_Q_32
  replace H_Q_32 := Lib.hid H_Q_32
  obtain ⟨k_F_32_0, k_F_32_1, f_F_32, l_F_32⟩ := bk2 H_F_32
  replace H_F_32 := Lib.hid H_F_32
  clear sq7 sq9
  go_upto_region 20 with (first | (have _t := tok33; go_at_call 20; (with_reducible refine ((T33 _).out).mono ?_); rintro e w33 ⟨rfl, hb33⟩; clear tok33 _t; have hz33 := hb33.size; (try simp only [World.size_alloc, World.size_setCell, World.size_drew, World.size_drewN'] at hz33)))
  have H_T_33 := (hb33.block (w11.heap.size) (blk_lt' H_T_32.out)).trans H_T_32.out
  clear k_T_32_0 k_T_32_1 f_T_32 H_T_32
  obtain ⟨k_T_33_0, k_T_33_1, f_T_33, l_T_33⟩ := bk2 H_T_33
  replace H_T_33 := Lib.hid H_T_33
  have H_S_33 := (hb33.block (w11.heap.size + 1) (blk_lt' H_S_32.out)).trans H_S_32.out
  clear k_S_32_0 k_S_32_1 f_S_32 H_S_32
  obtain ⟨k_S_33_0, k_S_33_1, f_S_33, l_S_33⟩ := bk2 H_S_33
  replace H_S_33 := Lib.hid H_S_33
  have H_U_33 := (hb33.block (w17.heap.size) (blk_lt' H_U_32.out)).trans H_U_32.out
  clear k_U_32_0 k_U_32_1 f_U_32 H_U_32
  obtain ⟨k_U_33_0, k_U_33_1, f_U_33, l_U_33⟩ := bk2 H_U_33
  replace H_U_33 := Lib.hid H_U_33
  have H_A_33 := (hb33.block (w19.heap.size) (blk_lt' H_A_32.out)).trans H_A_32.out
  clear k_A_32_0 k_A_32_1 f_A_32 H_A_32
  obtain ⟨k_A_33_0, k_A_33_1, f_A_33, l_A_33⟩ := bk2 H_A_33
  replace H_A_33 := Lib.hid H_A_33
  have H_B_33 := (hb33.block (w19.heap.size + 1) (blk_lt' H_B_32.out)).trans H_B_32.out
  clear k_B_32_0 k_B_32_1 f_B_32 H_B_32
  obtain ⟨k_B_33_0, k_B_33_1, f_B_33, l_B_33⟩ := bk2 H_B_33
  replace H_B_33 := Lib.hid H_B_33
  have H_X_33 := (hb33.block (w21.heap.size) (blk_lt' H_X_32.out)).trans H_X_32.out
  clear k_X_32_0 k_X_32_1 f_X_32 H_X_32
  obtain ⟨k_X_33_0, k_X_33_1, f_X_33, l_X_33⟩ := bk2 H_X_33
  replace H_X_33 := Lib.hid H_X_33
  have H_Y_33 := (hb33.block (w21.heap.size + 1) (blk_lt' H_Y_32.out)).trans H_Y_32.out
  clear k_Y_32_0 k_Y_32_1 f_Y_32 H_Y_32
  obtain ⟨k_Y_33_0, k_Y_33_1, f_Y_33, l_Y_33⟩ := bk2 H_Y_33
  replace H_Y_33 := Lib.hid H_Y_33
  have H_W_33 := (hb33.block (w23.heap.size) (blk_lt' H_W_32.out)).trans H_W_32.out
  clear k_W_32_0 k_W_32_1 f_W_32 H_W_32
  obtain ⟨k_W_33_0, k_W_33_1, f_W_33, l_W_33⟩ := bk2 H_W_33
  replace H_W_33 := Lib.hid H_W_33
  have H_R_33 := (hb33.block (w25.heap.size) (blk_lt' H_R_32.out)).trans H_R_32.out
  clear k_R_32_0 k_R_32_1 k_R_32_2 f_R_32 H_R_32
  obtain ⟨k_R_33_0, k_R_33_1, k_R_33_2, f_R_33, l_R_33⟩ := bk3 H_R_33
  replace H_R_33 := Lib.hid H_R_33
  have H_Q_33 := (hb33.block (w27.heap.size) (blk_lt' H_Q_32.out)).trans H_Q_32.out
  clear k_Q_32_0 k_Q_32_1 k_Q_32_2 f_Q_32 H_Q_32
  obtain ⟨k_Q_33_0, k_Q_33_1, k_Q_33_2, f_Q_33, l_Q_33⟩ := bk3 H_Q_33
  replace H_Q_33 := Lib.hid H_Q_33
  have H_F_33 := (hb33.block (w29.heap.size) (blk_lt' H_F_32.out)).trans H_F_32.out
  clear k_F_32_0 k_F_32_1 f_F_32 H_F_32
  obtain ⟨k_F_33_0, k_F_33_1, f_F_33, l_F_33⟩ := bk2 H_F_33
  replace H_F_33 := Lib.hid H_F_33
  have hB33 : Below w.heap.size w w33 := below_via hb33 (by assumption) (by first | exact hB32.size | go_size)
  have HB7 := HB7.trans (hb33.mono HB7.size)
  have sq7 := HB7.size
  have HB9 := HB9.trans (hb33.mono HB9.size)
  have sq9 := HB9.size
  clear hb33 T33
  replace H_T_33 := H_T_33.out
  replace H_S_33 := H_S_33.out
  replace H_U_33 := H_U_33.out
  replace H_A_33 := H_A_33.out
  replace H_B_33 := H_B_33.out
  replace H_X_33 := H_X_33.out
  replace H_Y_33 := H_Y_33.out
  replace H_W_33 := H_W_33.out
  replace H_R_33 := H_R_33.out
  replace H_Q_33 := H_Q_33.out
  replace H_F_33 := H_F_33.out
  refine chk (fun W => Below w.heap.size w W ∧ W.heap[w11.heap.size]? = some (.cells #[.int .i64 ta, .int .i64 tb] 30 (0, 0)) ∧ W.heap[w11.heap.size + 1]? = some (.cells #[.int .i64 tn, .int .i64 td] 32 (0, 0)) ∧ W.heap[w17.heap.size]? = some (.cells #[.int .i64 ua, .int .i64 ub] 30 (0, 0)) ∧ W.heap[w19.heap.size]? = some (.cells #[.int .i64 x1, .int .i64 x2] 32 (0, 0)) ∧ W.heap[w19.heap.size + 1]? = some (.cells #[.int .i64 y1, .int .i64 y2] 32 (0, 0)) ∧ W.heap[w21.heap.size]? = some (.cells #[.int .i64 x1, .int .i64 x2] 32 (0, 0)) ∧ W.heap[w21.heap.size + 1]? = some (.cells #[.int .i64 y1, .int .i64 y2] 32 (0, 0)) ∧ W.heap[w23.heap.size]? = some (.cells #[.int .i64 wa, .int .i64 wb] 30 (0, 0)) ∧ W.heap[w25.heap.size]? = some (.cells #[.int .i64 qd, .int .i64 qa, .int .i64 qc] 43 (0, 0)) ∧ W.heap[w27.heap.size]? = some (.cells #[.int .i64 qd, .int .i64 qa, .int .i64 qc] 43 (0, 0)) ∧ W.heap[w29.heap.size]? = some (.cells #[.int .i64 fa, .int .i64 fb] 30 (0, 0)) ∧ Below w7.heap.size w7 W ∧ Below w9.heap.size w9 W) (by refine ⟨?_, ?_, ?_, ?_, ?_, ?_, ?_, ?_, ?_, ?_, ?_, ?_, ?_, ?_⟩ <;> (repeat' first | (with_reducible first | assumption | (apply Ne.symm; assumption) | apply Nat.le_refl | apply Nat.le_add_right | apply zL | apply zRf | apply Wx.box | apply Wx.box4 | apply zWa | apply Wx.drew | apply zWn | apply bx_drew | apply bx_drewN | apply bx_set3 | apply bx_set2 | apply bx_set4 | apply bx_set1) | ((with_reducible apply bx_new); (focus (go_size; done))) | (with_reducible first | apply zOl | apply zFa | apply zDn | apply zDr | apply zAl | apply zSt | refine zVi (by assumption) ?_ ?_) | go_size | omega)) ?_
  clear k_T_33_0 k_T_33_1 f_T_33 H_T_33
  clear k_S_33_0 k_S_33_1 f_S_33 H_S_33
  clear k_U_33_0 k_U_33_1 f_U_33 H_U_33
  clear k_A_33_0 k_A_33_1 f_A_33 H_A_33
  clear k_B_33_0 k_B_33_1 f_B_33 H_B_33
  clear k_X_33_0 k_X_33_1 f_X_33 H_X_33
  clear k_Y_33_0 k_Y_33_1 f_Y_33 H_Y_33
  clear k_W_33_0 k_W_33_1 f_W_33 H_W_33
  clear k_R_33_0 k_R_33_1 k_R_33_2 f_R_33 H_R_33
  clear k_Q_33_0 k_Q_33_1 k_Q_33_2 f_Q_33 H_Q_33
  clear k_F_33_0 k_F_33_1 f_F_33 H_F_33
  clear hB33
  rintro w34 ⟨hB34, H_T_34, H_S_34, H_U_34, H_A_34, H_B_34, H_X_34, H_Y_34, H_W_34, H_R_34, H_Q_34, H_F_34, HB7, HB9⟩
  obtain ⟨k_T_34_0, k_T_34_1, f_T_34, l_T_34⟩ := bk2 H_T_34
  replace H_T_34 := Lib.hid H_T_34
  obtain ⟨k_S_34_0, k_S_34_1, f_S_34, l_S_34⟩ := bk2 H_S_34
  replace H_S_34 := Lib.hid H_S_34
  obtain ⟨k_U_34_0, k_U_34_1, f_U_34, l_U_34⟩ := bk2 H_U_34
  replace H_U_34 := Lib.hid H_U_34
  obtain ⟨k_A_34_0, k_A_34_1, f_A_34, l_A_34⟩ := bk2 H_A_34
  replace H_A_34 := Lib.hid H_A_34
  obtain ⟨k_B_34_0, k_B_34_1, f_B_34, l_B_34⟩ := bk2 H_B_34
  replace H_B_34 := Lib.hid H_B_34
  obtain ⟨k_X_34_0, k_X_34_1, f_X_34, l_X_34⟩ := bk2 H_X_34
  replace H_X_34 := Lib.hid H_X_34
  obtain ⟨k_Y_34_0, k_Y_34_1, f_Y_34, l_Y_34⟩ := bk2 H_Y_34
  replace H_Y_34 := Lib.hid H_Y_34
  obtain ⟨k_W_34_0, k_W_34_1, f_W_34, l_W_34⟩ := bk2 H_W_34
  replace H_W_34 := Lib.hid H_W_34
  obtain ⟨k_R_34_0, k_R_34_1, k_R_34_2, f_R_34, l_R_34⟩ := bk3 H_R_34
  replace H_R_34 := Lib.hid H_R_34
  obtain ⟨k_Q_34_0, k_Q_34_1, k_Q_34_2, f_Q_34, l_Q_34⟩ := bk3 H_Q_34
  replace H_Q_34 := Lib.hid H_Q_34
  obtain ⟨k_F_34_0, k_F_34_1, f_F_34, l_F_34⟩ := bk2 H_F_34
  replace H_F_34 := Lib.hid H_F_34
  clear sq7 sq9
  have S7 := hx10.below HB7
  have S9 := hx12.below HB9
  have TF := fun (W : World) (hW : Below w34.heap.size w34 W) => Lib.hid (qInts_same (S7.below hW) (S9.below hW))
  have sz34 := hB34.size
  have e0 : (ok != ok) = false := by simp
  have e1 : (o3 != o3) = false := by simp
  have e2 : (o5 != o5) = false := by simp
  have e3 : (o7 != o7) = false := by simp
  have e4 : (o9 != o9) = false := by simp
  have v0 : (s != s) = false := by simp
  have v1 : (cc != cc) = false := by simp
  have v2 : (v != v) = false := by simp
  have E1 := fun W => neqFr_same x1 x2 W
  have E2 := fun W => neqFr_same y1 y2 W
  have E3 := fun W => neqQu_same qd qa qc W
  go_cut [231] (fun sq wx => sq = .bool false ∧ Below w34.heap.size w34 wx)
  case first =>
    as_aux_lemma =>
      clear F1 F3 F4 F5
      go_wp2_with (first | (first | (have _t := tok35; go_at_call 21; (with_reducible refine ((TF _ (by repeat' first | (with_reducible first | apply zRf | assumption | apply zDn | apply zDr | apply zAl | apply zSt | refine zVi (by assumption) ?_ ?_) | go_size)).out).mono ?_); rintro e w35 ⟨rfl, hb35⟩; clear tok35 _t; have hz35 := hb35.size; (try simp only [World.size_alloc, World.size_setCell, World.size_drew, World.size_drewN'] at hz35); (try (have kq := cellAt hb35 (w19.heap.size) (by go_size); have k35_w19_0_0 := kq 0; have k35_w19_0_1 := kq 1; clear kq; have f35_w19_0 := frozAt hb35 (w19.heap.size) (by go_size); simp [go_sem, *] at k35_w19_0_0 k35_w19_0_1 f35_w19_0)); (try have l35_w19_0 : w19.heap.size < w35.heap.size := by omega); (try (have kq := cellAt hb35 (w19.heap.size + 1) (by go_size); have k35_w19_1_0 := kq 0; have k35_w19_1_1 := kq 1; clear kq; have f35_w19_1 := frozAt hb35 (w19.heap.size + 1) (by go_size); simp [go_sem, *] at k35_w19_1_0 k35_w19_1_1 f35_w19_1)); (try have l35_w19_1 : w19.heap.size + 1 < w35.heap.size := by omega); (try (have kq := cellAt hb35 (w21.heap.size) (by go_size); have k35_w21_0_0 := kq 0; have k35_w21_0_1 := kq 1; clear kq; have f35_w21_0 := frozAt hb35 (w21.heap.size) (by go_size); simp [go_sem, *] at k35_w21_0_0 k35_w21_0_1 f35_w21_0)); (try have l35_w21_0 : w21.heap.size < w35.heap.size := by omega); (try (have kq := cellAt hb35 (w21.heap.size + 1) (by go_size); have k35_w21_1_0 := kq 0; have k35_w21_1_1 := kq 1; clear kq; have f35_w21_1 := frozAt hb35 (w21.heap.size + 1) (by go_size); simp [go_sem, *] at k35_w21_1_0 k35_w21_1_1 f35_w21_1)); (try have l35_w21_1 : w21.heap.size + 1 < w35.heap.size := by omega); (try (have kq := cellAt hb35 (w25.heap.size) (by go_size); have k35_w25_0_0 := kq 0; have k35_w25_0_1 := kq 1; have k35_w25_0_2 := kq 2; clear kq; have f35_w25_0 := frozAt hb35 (w25.heap.size) (by go_size); simp [go_sem, *] at k35_w25_0_0 k35_w25_0_1 k35_w25_0_2 f35_w25_0)); (try have l35_w25_0 : w25.heap.size < w35.heap.size := by omega); (try (have kq := cellAt hb35 (w27.heap.size) (by go_size); have k35_w27_0_0 := kq 0; have k35_w27_0_1 := kq 1; have k35_w27_0_2 := kq 2; clear kq; have f35_w27_0 := frozAt hb35 (w27.heap.size) (by go_size); simp [go_sem, *] at k35_w27_0_0 k35_w27_0_1 k35_w27_0_2 f35_w27_0)); (try have l35_w27_0 : w27.heap.size < w35.heap.size := by omega); (try (have kq := cellAt hb35 (w29.heap.size) (by go_size); have k35_w29_0_0 := kq 0; have k35_w29_0_1 := kq 1; clear kq; have f35_w29_0 := frozAt hb35 (w29.heap.size) (by go_size); simp [go_sem, *] at k35_w29_0_0 k35_w29_0_1 f35_w29_0)); (try have l35_w29_0 : w29.heap.size < w35.heap.size := by omega); (try clear k31_w19_0_0 k31_w19_0_1 f31_w19_0); (try clear l31_w19_0); (try clear k31_w19_1_0 k31_w19_1_1 f31_w19_1); (try clear l31_w19_1); (try clear k31_w21_0_0 k31_w21_0_1 f31_w21_0); (try clear l31_w21_0); (try clear k31_w21_1_0 k31_w21_1_1 f31_w21_1); (try clear l31_w21_1); (try clear k31_w25_0_0 k31_w25_0_1 k31_w25_0_2 f31_w25_0); (try clear l31_w25_0); (try clear k31_w27_0_0 k31_w27_0_1 k31_w27_0_2 f31_w27_0); (try clear l31_w27_0); (try clear k31_w29_0_0 k31_w29_0_1 f31_w29_0); (try clear l31_w29_0); (try clear k32_w19_0_0 k32_w19_0_1 f32_w19_0); (try clear l32_w19_0); (try clear k32_w19_1_0 k32_w19_1_1 f32_w19_1); (try clear l32_w19_1); (try clear k32_w21_0_0 k32_w21_0_1 f32_w21_0); (try clear l32_w21_0); (try clear k32_w21_1_0 k32_w21_1_1 f32_w21_1); (try clear l32_w21_1); (try clear k32_w25_0_0 k32_w25_0_1 k32_w25_0_2 f32_w25_0); (try clear l32_w25_0); (try clear k32_w27_0_0 k32_w27_0_1 k32_w27_0_2 f32_w27_0); (try clear l32_w27_0); (try clear k32_w29_0_0 k32_w29_0_1 f32_w29_0); (try clear l32_w29_0); (try clear k33_w19_0_0 k33_w19_0_1 f33_w19_0); (try clear l33_w19_0); (try clear k33_w19_1_0 k33_w19_1_1 f33_w19_1); (try clear l33_w19_1); (try clear k33_w21_0_0 k33_w21_0_1 f33_w21_0); (try clear l33_w21_0); (try clear k33_w21_1_0 k33_w21_1_1 f33_w21_1); (try clear l33_w21_1); (try clear k33_w25_0_0 k33_w25_0_1 k33_w25_0_2 f33_w25_0); (try clear l33_w25_0); (try clear k33_w27_0_0 k33_w27_0_1 k33_w27_0_2 f33_w27_0); (try clear l33_w27_0); (try clear k33_w29_0_0 k33_w29_0_1 f33_w29_0); (try clear l33_w29_0); (try clear k34_w19_0_0 k34_w19_0_1 f34_w19_0); (try clear l34_w19_0); (try clear k34_w19_1_0 k34_w19_1_1 f34_w19_1); (try clear l34_w19_1); (try clear k34_w21_0_0 k34_w21_0_1 f34_w21_0); (try clear l34_w21_0); (try clear k34_w21_1_0 k34_w21_1_1 f34_w21_1); (try clear l34_w21_1); (try clear k34_w25_0_0 k34_w25_0_1 k34_w25_0_2 f34_w25_0); (try clear l34_w25_0); (try clear k34_w27_0_0 k34_w27_0_1 k34_w27_0_2 f34_w27_0); (try clear l34_w27_0); (try clear k34_w29_0_0 k34_w29_0_1 f34_w29_0); (try clear l34_w29_0)) | (have _t := tok36; go_at_call 22; (with_reducible refine ((T36 _).out).mono ?_); rintro e w36 ⟨rfl, hb36⟩; clear tok36 _t; have hz36 := hb36.size; (try simp only [World.size_alloc, World.size_setCell, World.size_drew, World.size_drewN'] at hz36); (try (have kq := cellAt hb36 (w19.heap.size) (by go_size); have k36_w19_0_0 := kq 0; have k36_w19_0_1 := kq 1; clear kq; have f36_w19_0 := frozAt hb36 (w19.heap.size) (by go_size); simp [go_sem, *] at k36_w19_0_0 k36_w19_0_1 f36_w19_0)); (try have l36_w19_0 : w19.heap.size < w36.heap.size := by omega); (try (have kq := cellAt hb36 (w19.heap.size + 1) (by go_size); have k36_w19_1_0 := kq 0; have k36_w19_1_1 := kq 1; clear kq; have f36_w19_1 := frozAt hb36 (w19.heap.size + 1) (by go_size); simp [go_sem, *] at k36_w19_1_0 k36_w19_1_1 f36_w19_1)); (try have l36_w19_1 : w19.heap.size + 1 < w36.heap.size := by omega); (try (have kq := cellAt hb36 (w21.heap.size) (by go_size); have k36_w21_0_0 := kq 0; have k36_w21_0_1 := kq 1; clear kq; have f36_w21_0 := frozAt hb36 (w21.heap.size) (by go_size); simp [go_sem, *] at k36_w21_0_0 k36_w21_0_1 f36_w21_0)); (try have l36_w21_0 : w21.heap.size < w36.heap.size := by omega); (try (have kq := cellAt hb36 (w21.heap.size + 1) (by go_size); have k36_w21_1_0 := kq 0; have k36_w21_1_1 := kq 1; clear kq; have f36_w21_1 := frozAt hb36 (w21.heap.size + 1) (by go_size); simp [go_sem, *] at k36_w21_1_0 k36_w21_1_1 f36_w21_1)); (try have l36_w21_1 : w21.heap.size + 1 < w36.heap.size := by omega); (try (have kq := cellAt hb36 (w25.heap.size) (by go_size); have k36_w25_0_0 := kq 0; have k36_w25_0_1 := kq 1; have k36_w25_0_2 := kq 2; clear kq; have f36_w25_0 := frozAt hb36 (w25.heap.size) (by go_size); simp [go_sem, *] at k36_w25_0_0 k36_w25_0_1 k36_w25_0_2 f36_w25_0)); (try have l36_w25_0 : w25.heap.size < w36.heap.size := by omega); (try (have kq := cellAt hb36 (w27.heap.size) (by go_size); have k36_w27_0_0 := kq 0; have k36_w27_0_1 := kq 1; have k36_w27_0_2 := kq 2; clear kq; have f36_w27_0 := frozAt hb36 (w27.heap.size) (by go_size); simp [go_sem, *] at k36_w27_0_0 k36_w27_0_1 k36_w27_0_2 f36_w27_0)); (try have l36_w27_0 : w27.heap.size < w36.heap.size := by omega); (try (have kq := cellAt hb36 (w29.heap.size) (by go_size); have k36_w29_0_0 := kq 0; have k36_w29_0_1 := kq 1; clear kq; have f36_w29_0 := frozAt hb36 (w29.heap.size) (by go_size); simp [go_sem, *] at k36_w29_0_0 k36_w29_0_1 f36_w29_0)); (try have l36_w29_0 : w29.heap.size < w36.heap.size := by omega); (try clear k32_w19_0_0 k32_w19_0_1 f32_w19_0); (try clear l32_w19_0); (try clear k32_w19_1_0 k32_w19_1_1 f32_w19_1); (try clear l32_w19_1); (try clear k32_w21_0_0 k32_w21_0_1 f32_w21_0); (try clear l32_w21_0); (try clear k32_w21_1_0 k32_w21_1_1 f32_w21_1); (try clear l32_w21_1); (try clear k32_w25_0_0 k32_w25_0_1 k32_w25_0_2 f32_w25_0); (try clear l32_w25_0); (try clear k32_w27_0_0 k32_w27_0_1 k32_w27_0_2 f32_w27_0); (try clear l32_w27_0); (try clear k32_w29_0_0 k32_w29_0_1 f32_w29_0); (try clear l32_w29_0); (try clear k33_w19_0_0 k33_w19_0_1 f33_w19_0); (try clear l33_w19_0); (try clear k33_w19_1_0 k33_w19_1_1 f33_w19_1); (try clear l33_w19_1); (try clear k33_w21_0_0 k33_w21_0_1 f33_w21_0); (try clear l33_w21_0); (try clear k33_w21_1_0 k33_w21_1_1 f33_w21_1); (try clear l33_w21_1); (try clear k33_w25_0_0 k33_w25_0_1 k33_w25_0_2 f33_w25_0); (try clear l33_w25_0); (try clear k33_w27_0_0 k33_w27_0_1 k33_w27_0_2 f33_w27_0); (try clear l33_w27_0); (try clear k33_w29_0_0 k33_w29_0_1 f33_w29_0); (try clear l33_w29_0); (try clear k34_w19_0_0 k34_w19_0_1 f34_w19_0); (try clear l34_w19_0); (try clear k34_w19_1_0 k34_w19_1_1 f34_w19_1); (try clear l34_w19_1); (try clear k34_w21_0_0 k34_w21_0_1 f34_w21_0); (try clear l34_w21_0); (try clear k34_w21_1_0 k34_w21_1_1 f34_w21_1); (try clear l34_w21_1); (try clear k34_w25_0_0 k34_w25_0_1 k34_w25_0_2 f34_w25_0); (try clear l34_w25_0); (try clear k34_w27_0_0 k34_w27_0_1 k34_w27_0_2 f34_w27_0); (try clear l34_w27_0); (try clear k34_w29_0_0 k34_w29_0_1 f34_w29_0); (try clear l34_w29_0); (try clear k35_w19_0_0 k35_w19_0_1 f35_w19_0); (try clear l35_w19_0); (try clear k35_w19_1_0 k35_w19_1_1 f35_w19_1); (try clear l35_w19_1); (try clear k35_w21_0_0 k35_w21_0_1 f35_w21_0); (try clear l35_w21_0); (try clear k35_w21_1_0 k35_w21_1_1 f35_w21_1); (try clear l35_w21_1); (try clear k35_w25_0_0 k35_w25_0_1 k35_w25_0_2 f35_w25_0); (try clear l35_w25_0); (try clear k35_w27_0_0 k35_w27_0_1 k35_w27_0_2 f35_w27_0); (try clear l35_w27_0); (try clear k35_w29_0_0 k35_w29_0_1 f35_w29_0); (try clear l35_w29_0))))
      all_goals (go_meet; exact ⟨by first | rfl | simp, by repeat' first | (with_reducible first | apply zRf | assumption | apply zDn | apply zDr | apply zAl | apply zSt | refine zVi (by assumption) ?_ ?_) | go_size⟩)
  case rest =>
    obtain ⟨rfl, hb39⟩ := hcut
    generalize wc = w39 at *
    clear TF T36 E1 E2 E3 e0 e1 e2 e3 e4 v0 v1 v2
    have Q12 := S9.below hb39
    clear S7 S9 HB7 HB9 hx10 hx12
    clear k_T_34_0
    clear k_T_34_1
    clear f_T_34 H_T_34
    clear k_S_34_0
    clear k_S_34_1
    clear f_S_34 H_S_34
    clear k_A_34_0
    clear k_A_34_1
    clear f_A_34 H_A_34
    clear k_B_34_0
    clear k_B_34_1
    clear f_B_34 H_B_34
    have H_U_39 := (hb39.block (w17.heap.size) (blk_lt' H_U_34.out)).trans H_U_34.out
    clear k_U_34_0 k_U_34_1 f_U_34 H_U_34
    obtain ⟨k_U_39_0, k_U_39_1, f_U_39, l_U_39⟩ := bk2 H_U_39
    replace H_U_39 := Lib.hid H_U_39
    have H_X_39 := (hb39.block (w21.heap.size) (blk_lt' H_X_34.out)).trans H_X_34.out
    clear k_X_34_0 k_X_34_1 f_X_34 H_X_34
    obtain ⟨k_X_39_0, k_X_39_1, f_X_39, l_X_39⟩ := bk2 H_X_39
    replace H_X_39 := Lib.hid H_X_39
    have H_Y_39 := (hb39.block (w21.heap.size + 1) (blk_lt' H_Y_34.out)).trans H_Y_34.out
    clear k_Y_34_0 k_Y_34_1 f_Y_34 H_Y_34
    obtain ⟨k_Y_39_0, k_Y_39_1, f_Y_39, l_Y_39⟩ := bk2 H_Y_39
    replace H_Y_39 := Lib.hid H_Y_39
    have H_W_39 := (hb39.block (w23.heap.size) (blk_lt' H_W_34.out)).trans H_W_34.out
    clear k_W_34_0 k_W_34_1 f_W_34 H_W_34
    obtain ⟨k_W_39_0, k_W_39_1, f_W_39, l_W_39⟩ := bk2 H_W_39
    replace H_W_39 := Lib.hid H_W_39
    have H_Q_39 := (hb39.block (w27.heap.size) (blk_lt' H_Q_34.out)).trans H_Q_34.out
    clear k_Q_34_0 k_Q_34_1 k_Q_34_2 f_Q_34 H_Q_34
    obtain ⟨k_Q_39_0, k_Q_39_1, k_Q_39_2, f_Q_39, l_Q_39⟩ := bk3 H_Q_39
    replace H_Q_39 := Lib.hid H_Q_39
    have H_R_39 := (hb39.block (w25.heap.size) (blk_lt' H_R_34.out)).trans H_R_34.out
    clear k_R_34_0 k_R_34_1 k_R_34_2 f_R_34 H_R_34
    obtain ⟨k_R_39_0, k_R_39_1, k_R_39_2, f_R_39, l_R_39⟩ := bk3 H_R_39
    replace H_R_39 := Lib.hid H_R_39
    have H_F_39 := (hb39.block (w29.heap.size) (blk_lt' H_F_34.out)).trans H_F_34.out
    clear k_F_34_0 k_F_34_1 f_F_34 H_F_34
    obtain ⟨k_F_39_0, k_F_39_1, f_F_39, l_F_39⟩ := bk2 H_F_39
    replace H_F_39 := Lib.hid H_F_39
    have hB39 : Below w.heap.size w w39 := below_via hb39 (by assumption) (by first | exact hB34.size | go_size)
    iterate 90 (first | ((with_reducible show Code.wp _ (.seq (.seq (.region 22 _ _) _) _) _ _ _); exact FnCl_22 hB39 H_U_39.out H_X_39.out H_Y_39.out H_W_39.out H_Q_39.out H_R_39.out H_F_39.out (Q12) hL F1.out F3.out F4.out F5.out) | go_values | go_skip | go_guarded | go_step | go_upon | go_back | skip)
end Go.Proofs.Ytnemnkbcbokafaa
