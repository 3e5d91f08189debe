/- FnPlaces: the walk of the law. -/
import Derived.Test.YtegiddpakocodaaGreatPlA
import Derived.Test.YtegiddpakocodaaGreatPq3
import Derived.Test.YtegiddpakocodaaGreatOpen5
namespace Go.Proofs.YtegiddpakocodaaGreat
open Go.RowKit
set_option linter.unusedVariables false
set_option maxHeartbeats 0
set_option maxRecDepth 20000
set_option linter.unusedSimpArgs false

theorem FnPlaces_any {s1 s2 : Option Addr} {m1 c1 m2 c2 : Nat} (w : World) (h1 : ByW w s1 m1) (h2 : ByW w s2 m2) : Calls Tryz.prog 3 #[.slice s1 m1 c1, .slice s2 m2 c2] w fun e w' => e = .returned (.bool true) ∧ Below w.heap.size w w' := by
  by_cases hbig : (1048576 : Int) < wrap64 ((m1 : Int) + m2)
  · go_enter Tryz.func3, Tryz.ntmps3
    go_wp2_with fail
    go_ret
    refine ⟨rfl, ?_⟩
    repeat' first | (with_reducible first | apply zRf | assumption | apply zDn | apply zDr | apply zAl | apply zSt | refine zVi (by assumption) ?_ ?_) | go_size
  have tok1 : True := trivial
  have tok2 : True := trivial
  have tok3 : True := trivial
  have tok4 : True := trivial
  have tok5 : True := trivial
  have tok6 : True := trivial
  have tok7 : True := trivial
  have tok8 : True := trivial
  have tok9 : True := trivial
  have tok10 : True := trivial
  have tok11 : True := trivial
  have tok12 : True := trivial
  have tok13 : True := trivial
  have tok14 : True := trivial
  have tok15 : True := trivial
  have tok16 : True := trivial
  have tok17 : True := trivial
  have tok18 : True := trivial
  have tok19 : True := trivial
  have tok20 : True := trivial
  have tok21 : True := trivial
  have tok22 : True := trivial
  have tok23 : True := trivial
  have tok24 : True := trivial
  have tok25 : True := trivial
  have tok26 : True := trivial
  have tok27 : True := trivial
  have tok28 : True := trivial
  go_enter Tryz.func3, Tryz.ntmps3
  go_upto_region 4 with (first | (have _t := tok1; go_at_call 4; refine (DrawFailingPrimes_any (h1.below (by repeat' first | (with_reducible first | apply zRf | assumption | apply zDn | apply zDr | apply zAl | apply zSt | refine zVi (by assumption) ?_ ?_) | go_size))).mono ?_; rintro e w1 ⟨D, A, C, rfl, hb1⟩; clear tok1 _t; have hz1 := hb1.size; (try simp only [World.size_alloc, World.size_setCell, World.size_drew, World.size_drewN'] at hz1)))
  obtain ⟨L, Bd, ok, one, ev, real, five, R3, R5, R7, R9, R11, R13, R15, R17, R27, ho, Fb, Fl, hL, hBd⟩ := pl_set1 D A C
  unfold NewJ at R3 R5
  unfold NewX at R7 R9
  have T3 := fun W : World => Lib.hid (R3 W)
  have T5 := fun W : World => Lib.hid (R5 W)
  have T7 := fun W : World => Lib.hid (R7 W)
  have T9 := fun W : World => Lib.hid (R9 W)
  have T11 := fun W : World => Lib.hid (R11 W)
  have T13 := fun W : World => Lib.hid (R13 W)
  have T15 := fun W : World => Lib.hid (R15 W)
  have T17 := fun W : World => Lib.hid (R17 W)
  have T27 := fun W : World => Lib.hid (R27 W)
  clear R3 R5 R7 R9 R11 R13 R15 R17 R27
  replace Fb := Lib.hid Fb
  replace Fl := Lib.hid Fl
  replace ho := Lib.hid ho
  refine chk (fun W => Below w.heap.size w W ∧ W.heap[w1.heap.size]? = some (.cells #[.int .i64 D, .int .i64 A, .int .i64 C] 24 (0, 0))) (by refine ⟨?_, ?_⟩ <;> (repeat' first | (with_reducible first | assumption | (apply Ne.symm; assumption) | apply Nat.le_refl | apply Nat.le_add_right | apply zL | apply zRf | apply Wx.box | apply Wx.box4 | apply zWa | apply Wx.drew | apply zWn | apply bx_drew | apply bx_drewN | apply bx_set3 | apply bx_set2 | apply bx_set4 | apply bx_set1) | ((with_reducible apply bx_new); (focus (go_size; done))) | (with_reducible first | apply zOl | apply zFa | apply zDn | apply zDr | apply zAl | apply zSt | refine zVi (by assumption) ?_ ?_) | go_size | omega)) ?_
  rintro w2 ⟨hB2, H_Q_2⟩
  obtain ⟨k_Q_2_0, k_Q_2_1, k_Q_2_2, f_Q_2, l_Q_2⟩ := bk3 H_Q_2
  replace H_Q_2 := Lib.hid H_Q_2
  clear hb1 h1 hbig
  go_upto_region 5 with (first | (have _t := tok3; go_at_call 5; (with_reducible refine ((T3 _).out).mono ?_); rintro e w3 ⟨v6, B6, rfl, hu6, hB6, hb3⟩; clear tok3 _t; have hz3 := hb3.size; (try simp only [World.size_alloc, World.size_setCell, World.size_drew, World.size_drewN'] at hz3); obtain ⟨a6, c6, rfl, hx6, -⟩ := Sx.of_owns hu6; clear hu6 hB6))
  have H_Q_3 := (hb3.block (w1.heap.size) (blk_lt' H_Q_2.out)).trans H_Q_2.out
  clear k_Q_2_0 k_Q_2_1 k_Q_2_2 f_Q_2 H_Q_2
  obtain ⟨k_Q_3_0, k_Q_3_1, k_Q_3_2, f_Q_3, l_Q_3⟩ := bk3 H_Q_3
  replace H_Q_3 := Lib.hid H_Q_3
  have hB3 : Below w.heap.size w w3 := below_via hb3 (by assumption) (by first | exact hB2.size | go_size)
  clear hb3 T3
  replace H_Q_3 := H_Q_3.out
  refine chk (fun W => Below w.heap.size w W ∧ W.heap[w1.heap.size]? = some (.cells #[.int .i64 D, .int .i64 A, .int .i64 C] 24 (0, 0)) ∧ Below w3.heap.size w3 W) (by refine ⟨?_, ?_, ?_⟩ <;> (repeat' first | (with_reducible first | assumption | (apply Ne.symm; assumption) | apply Nat.le_refl | apply Nat.le_add_right | apply zL | apply zRf | apply Wx.box | apply Wx.box4 | apply zWa | apply Wx.drew | apply zWn | apply bx_drew | apply bx_drewN | apply bx_set3 | apply bx_set2 | apply bx_set4 | apply bx_set1) | ((with_reducible apply bx_new); (focus (go_size; done))) | (with_reducible first | apply zOl | apply zFa | apply zDn | apply zDr | apply zAl | apply zSt | refine zVi (by assumption) ?_ ?_) | go_size | omega)) ?_
  clear k_Q_3_0 k_Q_3_1 k_Q_3_2 f_Q_3 H_Q_3
  clear hB3
  rintro w4 ⟨hB4, H_Q_4, HB3⟩
  obtain ⟨k_Q_4_0, k_Q_4_1, k_Q_4_2, f_Q_4, l_Q_4⟩ := bk3 H_Q_4
  replace H_Q_4 := Lib.hid H_Q_4
  go_upto_region 6 with (first | (have _t := tok5; go_at_call 6; (with_reducible refine ((T5 _).out).mono ?_); rintro e w5 ⟨v8, B8, rfl, hu8, hB8, hb5⟩; clear tok5 _t; have hz5 := hb5.size; (try simp only [World.size_alloc, World.size_setCell, World.size_drew, World.size_drewN'] at hz5); obtain ⟨a8, c8, rfl, hx8, -⟩ := Sx.of_owns hu8; clear hu8 hB8))
  have H_Q_5 := (hb5.block (w1.heap.size) (blk_lt' H_Q_4.out)).trans H_Q_4.out
  clear k_Q_4_0 k_Q_4_1 k_Q_4_2 f_Q_4 H_Q_4
  obtain ⟨k_Q_5_0, k_Q_5_1, k_Q_5_2, f_Q_5, l_Q_5⟩ := bk3 H_Q_5
  replace H_Q_5 := Lib.hid H_Q_5
  have hB5 : Below w.heap.size w w5 := below_via hb5 (by assumption) (by first | exact hB4.size | go_size)
  have HB3 := HB3.trans (hb5.mono HB3.size)
  have sq3 := HB3.size
  clear hb5 T5
  replace H_Q_5 := H_Q_5.out
  refine chk (fun W => Below w.heap.size w W ∧ W.heap[w1.heap.size]? = some (.cells #[.int .i64 D, .int .i64 A, .int .i64 C] 24 (0, 0)) ∧ Below w3.heap.size w3 W ∧ Below w5.heap.size w5 W) (by refine ⟨?_, ?_, ?_, ?_⟩ <;> (repeat' first | (with_reducible first | assumption | (apply Ne.symm; assumption) | apply Nat.le_refl | apply Nat.le_add_right | apply zL | apply zRf | apply Wx.box | apply Wx.box4 | apply zWa | apply Wx.drew | apply zWn | apply bx_drew | apply bx_drewN | apply bx_set3 | apply bx_set2 | apply bx_set4 | apply bx_set1) | ((with_reducible apply bx_new); (focus (go_size; done))) | (with_reducible first | apply zOl | apply zFa | apply zDn | apply zDr | apply zAl | apply zSt | refine zVi (by assumption) ?_ ?_) | go_size | omega)) ?_
  clear k_Q_5_0 k_Q_5_1 k_Q_5_2 f_Q_5 H_Q_5
  clear hB5
  rintro w6 ⟨hB6, H_Q_6, HB3, HB5⟩
  obtain ⟨k_Q_6_0, k_Q_6_1, k_Q_6_2, f_Q_6, l_Q_6⟩ := bk3 H_Q_6
  replace H_Q_6 := Lib.hid H_Q_6
  clear sq3
  go_upto_region 7 with (first | (have _t := tok7; go_at_call 7; (with_reducible refine ((T7 _).out).mono ?_); rintro e w7 ⟨a10, n10, c10, rfl, hx10, hb7⟩; clear tok7 _t; have hz7 := hb7.size; (try simp only [World.size_alloc, World.size_setCell, World.size_drew, World.size_drewN'] at hz7)))
  have H_Q_7 := (hb7.block (w1.heap.size) (blk_lt' H_Q_6.out)).trans H_Q_6.out
  clear k_Q_6_0 k_Q_6_1 k_Q_6_2 f_Q_6 H_Q_6
  obtain ⟨k_Q_7_0, k_Q_7_1, k_Q_7_2, f_Q_7, l_Q_7⟩ := bk3 H_Q_7
  replace H_Q_7 := Lib.hid H_Q_7
  have hB7 : Below w.heap.size w w7 := below_via hb7 (by assumption) (by first | exact hB6.size | go_size)
  have HB3 := HB3.trans (hb7.mono HB3.size)
  have sq3 := HB3.size
  have HB5 := HB5.trans (hb7.mono HB5.size)
  have sq5 := HB5.size
  clear hb7 T7
  replace H_Q_7 := H_Q_7.out
  refine chk (fun W => Below w.heap.size w W ∧ W.heap[w1.heap.size]? = some (.cells #[.int .i64 D, .int .i64 A, .int .i64 C] 24 (0, 0)) ∧ Below w3.heap.size w3 W ∧ Below w5.heap.size w5 W ∧ Below w7.heap.size w7 W) (by refine ⟨?_, ?_, ?_, ?_, ?_⟩ <;> (repeat' first | (with_reducible first | assumption | (apply Ne.symm; assumption) | apply Nat.le_refl | apply Nat.le_add_right | apply zL | apply zRf | apply Wx.box | apply Wx.box4 | apply zWa | apply Wx.drew | apply zWn | apply bx_drew | apply bx_drewN | apply bx_set3 | apply bx_set2 | apply bx_set4 | apply bx_set1) | ((with_reducible apply bx_new); (focus (go_size; done))) | (with_reducible first | apply zOl | apply zFa | apply zDn | apply zDr | apply zAl | apply zSt | refine zVi (by assumption) ?_ ?_) | go_size | omega)) ?_
  clear k_Q_7_0 k_Q_7_1 k_Q_7_2 f_Q_7 H_Q_7
  clear hB7
  rintro w8 ⟨hB8, H_Q_8, HB3, HB5, HB7⟩
  obtain ⟨k_Q_8_0, k_Q_8_1, k_Q_8_2, f_Q_8, l_Q_8⟩ := bk3 H_Q_8
  replace H_Q_8 := Lib.hid H_Q_8
  clear sq3 sq5
  go_upto_region 8 with (first | (have _t := tok9; go_at_call 8; (with_reducible refine ((T9 _).out).mono ?_); rintro e w9 ⟨a12, n12, c12, rfl, hx12, hb9⟩; clear tok9 _t; have hz9 := hb9.size; (try simp only [World.size_alloc, World.size_setCell, World.size_drew, World.size_drewN'] at hz9)))
  have H_Q_9 := (hb9.block (w1.heap.size) (blk_lt' H_Q_8.out)).trans H_Q_8.out
  clear k_Q_8_0 k_Q_8_1 k_Q_8_2 f_Q_8 H_Q_8
  obtain ⟨k_Q_9_0, k_Q_9_1, k_Q_9_2, f_Q_9, l_Q_9⟩ := bk3 H_Q_9
  replace H_Q_9 := Lib.hid H_Q_9
  have hB9 : Below w.heap.size w w9 := below_via hb9 (by assumption) (by first | exact hB8.size | go_size)
  have HB3 := HB3.trans (hb9.mono HB3.size)
  have sq3 := HB3.size
  have HB5 := HB5.trans (hb9.mono HB5.size)
  have sq5 := HB5.size
  have HB7 := HB7.trans (hb9.mono HB7.size)
  have sq7 := HB7.size
  clear hb9 T9
  replace H_Q_9 := H_Q_9.out
  refine chk (fun W => Below w.heap.size w W ∧ W.heap[w1.heap.size]? = some (.cells #[.int .i64 D, .int .i64 A, .int .i64 C] 24 (0, 0)) ∧ Below w3.heap.size w3 W ∧ Below w5.heap.size w5 W ∧ Below w7.heap.size w7 W ∧ Below w9.heap.size w9 W) (by refine ⟨?_, ?_, ?_, ?_, ?_, ?_⟩ <;> (repeat' first | (with_reducible first | assumption | (apply Ne.symm; assumption) | apply Nat.le_refl | apply Nat.le_add_right | apply zL | apply zRf | apply Wx.box | apply Wx.box4 | apply zWa | apply Wx.drew | apply zWn | apply bx_drew | apply bx_drewN | apply bx_set3 | apply bx_set2 | apply bx_set4 | apply bx_set1) | ((with_reducible apply bx_new); (focus (go_size; done))) | (with_reducible first | apply zOl | apply zFa | apply zDn | apply zDr | apply zAl | apply zSt | refine zVi (by assumption) ?_ ?_) | go_size | omega)) ?_
  clear k_Q_9_0 k_Q_9_1 k_Q_9_2 f_Q_9 H_Q_9
  clear hB9
  rintro w10 ⟨hB10, H_Q_10, HB3, HB5, HB7, HB9⟩
  obtain ⟨k_Q_10_0, k_Q_10_1, k_Q_10_2, f_Q_10, l_Q_10⟩ := bk3 H_Q_10
  replace H_Q_10 := Lib.hid H_Q_10
  clear sq3 sq5 sq7
  go_upto_region 9 with (first | (have _t := tok11; go_at_call 9; (with_reducible refine ((T11 _).out).mono ?_); rintro e w11 ⟨rfl, hb11⟩; clear tok11 _t; have hz11 := hb11.size; (try simp only [World.size_alloc, World.size_setCell, World.size_drew, World.size_drewN'] at hz11)))
  have H_Q_11 := (hb11.block (w1.heap.size) (blk_lt' H_Q_10.out)).trans H_Q_10.out
  clear k_Q_10_0 k_Q_10_1 k_Q_10_2 f_Q_10 H_Q_10
  obtain ⟨k_Q_11_0, k_Q_11_1, k_Q_11_2, f_Q_11, l_Q_11⟩ := bk3 H_Q_11
  replace H_Q_11 := Lib.hid H_Q_11
  have hB11 : Below w.heap.size w w11 := below_via hb11 (by assumption) (by first | exact hB10.size | go_size)
  have HB3 := HB3.trans (hb11.mono HB3.size)
  have sq3 := HB3.size
  have HB5 := HB5.trans (hb11.mono HB5.size)
  have sq5 := HB5.size
  have HB7 := HB7.trans (hb11.mono HB7.size)
  have sq7 := HB7.size
  have HB9 := HB9.trans (hb11.mono HB9.size)
  have sq9 := HB9.size
  clear hb11 T11
  replace H_Q_11 := H_Q_11.out
  refine chk (fun W => Below w.heap.size w W ∧ W.heap[w1.heap.size]? = some (.cells #[.int .i64 D, .int .i64 A, .int .i64 C] 24 (0, 0)) ∧ Below w3.heap.size w3 W ∧ Below w5.heap.size w5 W ∧ Below w7.heap.size w7 W ∧ Below w9.heap.size w9 W) (by refine ⟨?_, ?_, ?_, ?_, ?_, ?_⟩ <;> (repeat' first | (with_reducible first | assumption | (apply Ne.symm; assumption) | apply Nat.le_refl | apply Nat.le_add_right | apply zL | apply zRf | apply Wx.box | apply Wx.box4 | apply zWa | apply Wx.drew | apply zWn | apply bx_drew | apply bx_drewN | apply bx_set3 | apply bx_set2 | apply bx_set4 | apply bx_set1) | ((with_reducible apply bx_new); (focus (go_size; done))) | (with_reducible first | apply zOl | apply zFa | apply zDn | apply zDr | apply zAl | apply zSt | refine zVi (by assumption) ?_ ?_) | go_size | omega)) ?_
  clear k_Q_11_0 k_Q_11_1 k_Q_11_2 f_Q_11 H_Q_11
  clear hB11
  rintro w12 ⟨hB12, H_Q_12, HB3, HB5, HB7, HB9⟩
  obtain ⟨k_Q_12_0, k_Q_12_1, k_Q_12_2, f_Q_12, l_Q_12⟩ := bk3 H_Q_12
  replace H_Q_12 := Lib.hid H_Q_12
  clear sq3 sq5 sq7 sq9
  go_upto_region 10 with (first | (have _t := tok13; go_at_call 10; (with_reducible refine ((T13 _).out).mono ?_); rintro e w13 ⟨rfl, hb13⟩; clear tok13 _t; have hz13 := hb13.size; (try simp only [World.size_alloc, World.size_setCell, World.size_drew, World.size_drewN'] at hz13)))
  have H_Q_13 := (hb13.block (w1.heap.size) (blk_lt' H_Q_12.out)).trans H_Q_12.out
  clear k_Q_12_0 k_Q_12_1 k_Q_12_2 f_Q_12 H_Q_12
  obtain ⟨k_Q_13_0, k_Q_13_1, k_Q_13_2, f_Q_13, l_Q_13⟩ := bk3 H_Q_13
  replace H_Q_13 := Lib.hid H_Q_13
  have hB13 : Below w.heap.size w w13 := below_via hb13 (by assumption) (by first | exact hB12.size | go_size)
  have HB3 := HB3.trans (hb13.mono HB3.size)
  have sq3 := HB3.size
  have HB5 := HB5.trans (hb13.mono HB5.size)
  have sq5 := HB5.size
  have HB7 := HB7.trans (hb13.mono HB7.size)
  have sq7 := HB7.size
  have HB9 := HB9.trans (hb13.mono HB9.size)
  have sq9 := HB9.size
  clear hb13 T13
  replace H_Q_13 := H_Q_13.out
  refine chk (fun W => Below w.heap.size w W ∧ W.heap[w1.heap.size]? = some (.cells #[.int .i64 D, .int .i64 A, .int .i64 C] 24 (0, 0)) ∧ Below w3.heap.size w3 W ∧ Below w5.heap.size w5 W ∧ Below w7.heap.size w7 W ∧ Below w9.heap.size w9 W) (by refine ⟨?_, ?_, ?_, ?_, ?_, ?_⟩ <;> (repeat' first | (with_reducible first | assumption | (apply Ne.symm; assumption) | apply Nat.le_refl | apply Nat.le_add_right | apply zL | apply zRf | apply Wx.box | apply Wx.box4 | apply zWa | apply Wx.drew | apply zWn | apply bx_drew | apply bx_drewN | apply bx_set3 | apply bx_set2 | apply bx_set4 | apply bx_set1) | ((with_reducible apply bx_new); (focus (go_size; done))) | (with_reducible first | apply zOl | apply zFa | apply zDn | apply zDr | apply zAl | apply zSt | refine zVi (by assumption) ?_ ?_) | go_size | omega)) ?_
  clear k_Q_13_0 k_Q_13_1 k_Q_13_2 f_Q_13 H_Q_13
  clear hB13
  rintro w14 ⟨hB14, H_Q_14, HB3, HB5, HB7, HB9⟩
  obtain ⟨k_Q_14_0, k_Q_14_1, k_Q_14_2, f_Q_14, l_Q_14⟩ := bk3 H_Q_14
  replace H_Q_14 := Lib.hid H_Q_14
  clear sq3 sq5 sq7 sq9
  go_upto_region 11 with (first | (have _t := tok15; go_at_call 11; (with_reducible refine ((T15 _).out).mono ?_); rintro e w15 ⟨rfl, hb15⟩; clear tok15 _t; have hz15 := hb15.size; (try simp only [World.size_alloc, World.size_setCell, World.size_drew, World.size_drewN'] at hz15)))
  have H_Q_15 := (hb15.block (w1.heap.size) (blk_lt' H_Q_14.out)).trans H_Q_14.out
  clear k_Q_14_0 k_Q_14_1 k_Q_14_2 f_Q_14 H_Q_14
  obtain ⟨k_Q_15_0, k_Q_15_1, k_Q_15_2, f_Q_15, l_Q_15⟩ := bk3 H_Q_15
  replace H_Q_15 := Lib.hid H_Q_15
  have hB15 : Below w.heap.size w w15 := below_via hb15 (by assumption) (by first | exact hB14.size | go_size)
  have HB3 := HB3.trans (hb15.mono HB3.size)
  have sq3 := HB3.size
  have HB5 := HB5.trans (hb15.mono HB5.size)
  have sq5 := HB5.size
  have HB7 := HB7.trans (hb15.mono HB7.size)
  have sq7 := HB7.size
  have HB9 := HB9.trans (hb15.mono HB9.size)
  have sq9 := HB9.size
  clear hb15 T15
  replace H_Q_15 := H_Q_15.out
  refine chk (fun W => Below w.heap.size w W ∧ W.heap[w1.heap.size]? = some (.cells #[.int .i64 D, .int .i64 A, .int .i64 C] 24 (0, 0)) ∧ Below w3.heap.size w3 W ∧ Below w5.heap.size w5 W ∧ Below w7.heap.size w7 W ∧ Below w9.heap.size w9 W) (by refine ⟨?_, ?_, ?_, ?_, ?_, ?_⟩ <;> (repeat' first | (with_reducible first | assumption | (apply Ne.symm; assumption) | apply Nat.le_refl | apply Nat.le_add_right | apply zL | apply zRf | apply Wx.box | apply Wx.box4 | apply zWa | apply Wx.drew | apply zWn | apply bx_drew | apply bx_drewN | apply bx_set3 | apply bx_set2 | apply bx_set4 | apply bx_set1) | ((with_reducible apply bx_new); (focus (go_size; done))) | (with_reducible first | apply zOl | apply zFa | apply zDn | apply zDr | apply zAl | apply zSt | refine zVi (by assumption) ?_ ?_) | go_size | omega)) ?_
  clear k_Q_15_0 k_Q_15_1 k_Q_15_2 f_Q_15 H_Q_15
  clear hB15
  rintro w16 ⟨hB16, H_Q_16, HB3, HB5, HB7, HB9⟩
  obtain ⟨k_Q_16_0, k_Q_16_1, k_Q_16_2, f_Q_16, l_Q_16⟩ := bk3 H_Q_16
  replace H_Q_16 := Lib.hid H_Q_16
  clear sq3 sq5 sq7 sq9
  go_upto_region 12 with (first | (have _t := tok17; go_at_call 12; (with_reducible refine ((T17 _).out).mono ?_); rintro e w17 ⟨rfl, hb17⟩; clear tok17 _t; have hz17 := hb17.size; (try simp only [World.size_alloc, World.size_setCell, World.size_drew, World.size_drewN'] at hz17)))
  have H_Q_17 := (hb17.block (w1.heap.size) (blk_lt' H_Q_16.out)).trans H_Q_16.out
  clear k_Q_16_0 k_Q_16_1 k_Q_16_2 f_Q_16 H_Q_16
  obtain ⟨k_Q_17_0, k_Q_17_1, k_Q_17_2, f_Q_17, l_Q_17⟩ := bk3 H_Q_17
  replace H_Q_17 := Lib.hid H_Q_17
  have hB17 : Below w.heap.size w w17 := below_via hb17 (by assumption) (by first | exact hB16.size | go_size)
  have HB3 := HB3.trans (hb17.mono HB3.size)
  have sq3 := HB3.size
  have HB5 := HB5.trans (hb17.mono HB5.size)
  have sq5 := HB5.size
  have HB7 := HB7.trans (hb17.mono HB7.size)
  have sq7 := HB7.size
  have HB9 := HB9.trans (hb17.mono HB9.size)
  have sq9 := HB9.size
  clear hb17 T17
  replace H_Q_17 := H_Q_17.out
  refine chk (fun W => Below w.heap.size w W ∧ W.heap[w1.heap.size]? = some (.cells #[.int .i64 D, .int .i64 A, .int .i64 C] 24 (0, 0)) ∧ Below w3.heap.size w3 W ∧ Below w5.heap.size w5 W ∧ Below w7.heap.size w7 W ∧ Below w9.heap.size w9 W) (by refine ⟨?_, ?_, ?_, ?_, ?_, ?_⟩ <;> (repeat' first | (with_reducible first | assumption | (apply Ne.symm; assumption) | apply Nat.le_refl | apply Nat.le_add_right | apply zL | apply zRf | apply Wx.box | apply Wx.box4 | apply zWa | apply Wx.drew | apply zWn | apply bx_drew | apply bx_drewN | apply bx_set3 | apply bx_set2 | apply bx_set4 | apply bx_set1) | ((with_reducible apply bx_new); (focus (go_size; done))) | (with_reducible first | apply zOl | apply zFa | apply zDn | apply zDr | apply zAl | apply zSt | refine zVi (by assumption) ?_ ?_) | go_size | omega)) ?_
  clear k_Q_17_0 k_Q_17_1 k_Q_17_2 f_Q_17 H_Q_17
  clear hB17
  rintro w18 ⟨hB18, H_Q_18, HB3, HB5, HB7, HB9⟩
  obtain ⟨k_Q_18_0, k_Q_18_1, k_Q_18_2, f_Q_18, l_Q_18⟩ := bk3 H_Q_18
  replace H_Q_18 := Lib.hid H_Q_18
  clear sq3 sq5 sq7 sq9
  go_upto_region 13 with (first | (have _t := tok19; go_at_call 13; refine (DrawIsSquareModulo_any (h2.below (by repeat' first | (with_reducible first | apply zRf | assumption | apply zDn | apply zDr | apply zAl | apply zSt | refine zVi (by assumption) ?_ ?_) | go_size))).mono ?_; rintro e w19 ⟨n, p, k, rfl, hkb, hb19⟩; clear tok19 _t; have hz19 := hb19.size; (try simp only [World.size_alloc, World.size_setCell, World.size_drew, World.size_drewN'] at hz19)))
  have H_Q_19 := (hb19.block (w1.heap.size) (blk_lt' H_Q_18.out)).trans H_Q_18.out
  clear k_Q_18_0 k_Q_18_1 k_Q_18_2 f_Q_18 H_Q_18
  obtain ⟨k_Q_19_0, k_Q_19_1, k_Q_19_2, f_Q_19, l_Q_19⟩ := bk3 H_Q_19
  replace H_Q_19 := Lib.hid H_Q_19
  have hB19 : Below w.heap.size w w19 := below_via hb19 (by assumption) (by first | exact hB18.size | go_size)
  have HB3 := HB3.trans (hb19.mono HB3.size)
  have sq3 := HB3.size
  have HB5 := HB5.trans (hb19.mono HB5.size)
  have sq5 := HB5.size
  have HB7 := HB7.trans (hb19.mono HB7.size)
  have sq7 := HB7.size
  have HB9 := HB9.trans (hb19.mono HB9.size)
  have sq9 := HB9.size
  clear hb19
  obtain ⟨sq, o7, R21, R23, Fs, Fk⟩ := pl_set2 n p k hkb
  have T21 := fun W : World => Lib.hid (R21 W)
  have T23 := fun W : World => Lib.hid (R23 W)
  clear R21 R23
  replace Fs := Lib.hid Fs
  replace Fk := Lib.hid Fk
  replace H_Q_19 := H_Q_19.out
  refine chk (fun W => Below w.heap.size w W ∧ W.heap[w1.heap.size]? = some (.cells #[.int .i64 D, .int .i64 A, .int .i64 C] 24 (0, 0)) ∧ Below w3.heap.size w3 W ∧ Below w5.heap.size w5 W ∧ Below w7.heap.size w7 W ∧ Below w9.heap.size w9 W) (by refine ⟨?_, ?_, ?_, ?_, ?_, ?_⟩ <;> (repeat' first | (with_reducible first | assumption | (apply Ne.symm; assumption) | apply Nat.le_refl | apply Nat.le_add_right | apply zL | apply zRf | apply Wx.box | apply Wx.box4 | apply zWa | apply Wx.drew | apply zWn | apply bx_drew | apply bx_drewN | apply bx_set3 | apply bx_set2 | apply bx_set4 | apply bx_set1) | ((with_reducible apply bx_new); (focus (go_size; done))) | (with_reducible first | apply zOl | apply zFa | apply zDn | apply zDr | apply zAl | apply zSt | refine zVi (by assumption) ?_ ?_) | go_size | omega)) ?_
  clear k_Q_19_0 k_Q_19_1 k_Q_19_2 f_Q_19 H_Q_19
  clear hB19
  rintro w20 ⟨hB20, H_Q_20, HB3, HB5, HB7, HB9⟩
  obtain ⟨k_Q_20_0, k_Q_20_1, k_Q_20_2, f_Q_20, l_Q_20⟩ := bk3 H_Q_20
  replace H_Q_20 := Lib.hid H_Q_20
  clear sq3 sq5 sq7 sq9
  clear h2
  go_upto_region 14 with (first | (have _t := tok21; go_at_call 14; (with_reducible refine ((T21 _).out).mono ?_); rintro e w21 ⟨rfl, hb21⟩; clear tok21 _t; have hz21 := hb21.size; (try simp only [World.size_alloc, World.size_setCell, World.size_drew, World.size_drewN'] at hz21)))
  have H_Q_21 := (hb21.block (w1.heap.size) (blk_lt' H_Q_20.out)).trans H_Q_20.out
  clear k_Q_20_0 k_Q_20_1 k_Q_20_2 f_Q_20 H_Q_20
  obtain ⟨k_Q_21_0, k_Q_21_1, k_Q_21_2, f_Q_21, l_Q_21⟩ := bk3 H_Q_21
  replace H_Q_21 := Lib.hid H_Q_21
  have hB21 : Below w.heap.size w w21 := below_via hb21 (by assumption) (by first | exact hB20.size | go_size)
  have HB3 := HB3.trans (hb21.mono HB3.size)
  have sq3 := HB3.size
  have HB5 := HB5.trans (hb21.mono HB5.size)
  have sq5 := HB5.size
  have HB7 := HB7.trans (hb21.mono HB7.size)
  have sq7 := HB7.size
  have HB9 := HB9.trans (hb21.mono HB9.size)
  have sq9 := HB9.size
  clear hb21 T21
  replace H_Q_21 := H_Q_21.out
  refine chk (fun W => Below w.heap.size w W ∧ W.heap[w1.heap.size]? = some (.cells #[.int .i64 D, .int .i64 A, .int .i64 C] 24 (0, 0)) ∧ Below w3.heap.size w3 W ∧ Below w5.heap.size w5 W ∧ Below w7.heap.size w7 W ∧ Below w9.heap.size w9 W) (by refine ⟨?_, ?_, ?_, ?_, ?_, ?_⟩ <;> (repeat' first | (with_reducible first | assumption | (apply Ne.symm; assumption) | apply Nat.le_refl | apply Nat.le_add_right | apply zL | apply zRf | apply Wx.box | apply Wx.box4 | apply zWa | apply Wx.drew | apply zWn | apply bx_drew | apply bx_drewN | apply bx_set3 | apply bx_set2 | apply bx_set4 | apply bx_set1) | ((with_reducible apply bx_new); (focus (go_size; done))) | (with_reducible first | apply zOl | apply zFa | apply zDn | apply zDr | apply zAl | apply zSt | refine zVi (by assumption) ?_ ?_) | go_size | omega)) ?_
  clear k_Q_21_0 k_Q_21_1 k_Q_21_2 f_Q_21 H_Q_21
  clear hB21
  rintro w22 ⟨hB22, H_Q_22, HB3, HB5, HB7, HB9⟩
  obtain ⟨k_Q_22_0, k_Q_22_1, k_Q_22_2, f_Q_22, l_Q_22⟩ := bk3 H_Q_22
  replace H_Q_22 := Lib.hid H_Q_22
  clear sq3 sq5 sq7 sq9
  go_upto_region 15 with (first | (have _t := tok23; go_at_call 15; (with_reducible refine ((T23 _).out).mono ?_); rintro e w23 ⟨rfl, hb23⟩; clear tok23 _t; have hz23 := hb23.size; (try simp only [World.size_alloc, World.size_setCell, World.size_drew, World.size_drewN'] at hz23)))
  have H_Q_23 := (hb23.block (w1.heap.size) (blk_lt' H_Q_22.out)).trans H_Q_22.out
  clear k_Q_22_0 k_Q_22_1 k_Q_22_2 f_Q_22 H_Q_22
  obtain ⟨k_Q_23_0, k_Q_23_1, k_Q_23_2, f_Q_23, l_Q_23⟩ := bk3 H_Q_23
  replace H_Q_23 := Lib.hid H_Q_23
  have hB23 : Below w.heap.size w w23 := below_via hb23 (by assumption) (by first | exact hB22.size | go_size)
  have HB3 := HB3.trans (hb23.mono HB3.size)
  have sq3 := HB3.size
  have HB5 := HB5.trans (hb23.mono HB5.size)
  have sq5 := HB5.size
  have HB7 := HB7.trans (hb23.mono HB7.size)
  have sq7 := HB7.size
  have HB9 := HB9.trans (hb23.mono HB9.size)
  have sq9 := HB9.size
  clear hb23 T23
  replace H_Q_23 := H_Q_23.out
  refine chk (fun W => Below w.heap.size w W ∧ W.heap[w1.heap.size]? = some (.cells #[.int .i64 D, .int .i64 A, .int .i64 C] 24 (0, 0)) ∧ Below w3.heap.size w3 W ∧ Below w5.heap.size w5 W ∧ Below w7.heap.size w7 W ∧ Below w9.heap.size w9 W) (by refine ⟨?_, ?_, ?_, ?_, ?_, ?_⟩ <;> (repeat' first | (with_reducible first | assumption | (apply Ne.symm; assumption) | apply Nat.le_refl | apply Nat.le_add_right | apply zL | apply zRf | apply Wx.box | apply Wx.box4 | apply zWa | apply Wx.drew | apply zWn | apply bx_drew | apply bx_drewN | apply bx_set3 | apply bx_set2 | apply bx_set4 | apply bx_set1) | ((with_reducible apply bx_new); (focus (go_size; done))) | (with_reducible first | apply zOl | apply zFa | apply zDn | apply zDr | apply zAl | apply zSt | refine zVi (by assumption) ?_ ?_) | go_size | omega)) ?_
  clear k_Q_23_0 k_Q_23_1 k_Q_23_2 f_Q_23 H_Q_23
  clear hB23
  rintro w24 ⟨hB24, H_Q_24, HB3, HB5, HB7, HB9⟩
  obtain ⟨k_Q_24_0, k_Q_24_1, k_Q_24_2, f_Q_24, l_Q_24⟩ := bk3 H_Q_24
  replace H_Q_24 := Lib.hid H_Q_24
  clear sq3 sq5 sq7 sq9
  have S3 := hx6.below HB3
  have S5 := hx8.below HB5
  have S7 := hx10.below HB7
  have S9 := hx12.below HB9
  have TF := fun (W : World) (hW : Below w24.heap.size w24 W) => Lib.hid (qInts_same (S3.below hW) (S5.below hW))
  have TB := fun (W : World) (hW : Below w24.heap.size w24 W) => Lib.hid (qInts_same (S7.below hW) (S9.below hW))
  have sz24 := hB24.size
  have e0 : (ok != ok) = false := by simp
  have e1 : (one != one) = false := by simp
  have e2 : (ev != ev) = false := by simp
  have e3 : (real != real) = false := by simp
  have e4 : (five != five) = false := by simp
  have e5 : (o7 != o7) = false := by simp
  have e6 : (sq != sq) = false := by simp
  go_cut [176] (fun sq wx => sq = .bool false ∧ Below w24.heap.size w24 wx)
  case first =>
    have ho2 := ho.out
    clear Fl Fb Fs Fk ho
    cases ok
    · as_aux_lemma =>
        clear ho2
        go_wp2_with (first | (first | (have _t := tok25; go_at_call 16; (with_reducible refine ((TF _ (by repeat' first | (with_reducible first | apply zRf | assumption | apply zDn | apply zDr | apply zAl | apply zSt | refine zVi (by assumption) ?_ ?_) | go_size)).out).mono ?_); rintro e w25 ⟨rfl, hb25⟩; clear tok25 _t; have hz25 := hb25.size; (try simp only [World.size_alloc, World.size_setCell, World.size_drew, World.size_drewN'] at hz25); (try (have kq := cellAt hb25 (w1.heap.size) (by go_size); have k25_w1_0_0 := kq 0; have k25_w1_0_1 := kq 1; have k25_w1_0_2 := kq 2; clear kq; have f25_w1_0 := frozAt hb25 (w1.heap.size) (by go_size); simp [go_sem, *] at k25_w1_0_0 k25_w1_0_1 k25_w1_0_2 f25_w1_0)); (try have l25_w1_0 : w1.heap.size < w25.heap.size := by omega); (try clear k21_w1_0_0 k21_w1_0_1 k21_w1_0_2 f21_w1_0); (try clear l21_w1_0); (try clear k22_w1_0_0 k22_w1_0_1 k22_w1_0_2 f22_w1_0); (try clear l22_w1_0); (try clear k23_w1_0_0 k23_w1_0_1 k23_w1_0_2 f23_w1_0); (try clear l23_w1_0); (try clear k24_w1_0_0 k24_w1_0_1 k24_w1_0_2 f24_w1_0); (try clear l24_w1_0)) | (have _t := tok26; go_at_call 16; (with_reducible refine ((TB _ (by repeat' first | (with_reducible first | apply zRf | assumption | apply zDn | apply zDr | apply zAl | apply zSt | refine zVi (by assumption) ?_ ?_) | go_size)).out).mono ?_); rintro e w26 ⟨rfl, hb26⟩; clear tok26 _t; have hz26 := hb26.size; (try simp only [World.size_alloc, World.size_setCell, World.size_drew, World.size_drewN'] at hz26); (try (have kq := cellAt hb26 (w1.heap.size) (by go_size); have k26_w1_0_0 := kq 0; have k26_w1_0_1 := kq 1; have k26_w1_0_2 := kq 2; clear kq; have f26_w1_0 := frozAt hb26 (w1.heap.size) (by go_size); simp [go_sem, *] at k26_w1_0_0 k26_w1_0_1 k26_w1_0_2 f26_w1_0)); (try have l26_w1_0 : w1.heap.size < w26.heap.size := by omega); (try clear k22_w1_0_0 k22_w1_0_1 k22_w1_0_2 f22_w1_0); (try clear l22_w1_0); (try clear k23_w1_0_0 k23_w1_0_1 k23_w1_0_2 f23_w1_0); (try clear l23_w1_0); (try clear k24_w1_0_0 k24_w1_0_1 k24_w1_0_2 f24_w1_0); (try clear l24_w1_0); (try clear k25_w1_0_0 k25_w1_0_1 k25_w1_0_2 f25_w1_0); (try clear l25_w1_0)) | (have _t := tok27; go_at_call 17; (with_reducible refine ((T27 _).out).mono ?_); rintro e w27 ⟨rfl, hb27⟩; clear tok27 _t; have hz27 := hb27.size; (try simp only [World.size_alloc, World.size_setCell, World.size_drew, World.size_drewN'] at hz27); (try (have kq := cellAt hb27 (w1.heap.size) (by go_size); have k27_w1_0_0 := kq 0; have k27_w1_0_1 := kq 1; have k27_w1_0_2 := kq 2; clear kq; have f27_w1_0 := frozAt hb27 (w1.heap.size) (by go_size); simp [go_sem, *] at k27_w1_0_0 k27_w1_0_1 k27_w1_0_2 f27_w1_0)); (try have l27_w1_0 : w1.heap.size < w27.heap.size := by omega); (try clear k23_w1_0_0 k23_w1_0_1 k23_w1_0_2 f23_w1_0); (try clear l23_w1_0); (try clear k24_w1_0_0 k24_w1_0_1 k24_w1_0_2 f24_w1_0); (try clear l24_w1_0); (try clear k25_w1_0_0 k25_w1_0_1 k25_w1_0_2 f25_w1_0); (try clear l25_w1_0); (try clear k26_w1_0_0 k26_w1_0_1 k26_w1_0_2 f26_w1_0); (try clear l26_w1_0))))
        all_goals (go_meet; exact ⟨by first | rfl | simp, by repeat' first | (with_reducible first | apply zRf | assumption | apply zDn | apply zDr | apply zAl | apply zSt | refine zVi (by assumption) ?_ ?_) | go_size⟩)
    · obtain rfl := ho2 rfl
      as_aux_lemma =>
        clear ho2
        go_wp2_with (first | (first | (have _t := tok25; go_at_call 16; (with_reducible refine ((TF _ (by repeat' first | (with_reducible first | apply zRf | assumption | apply zDn | apply zDr | apply zAl | apply zSt | refine zVi (by assumption) ?_ ?_) | go_size)).out).mono ?_); rintro e w25 ⟨rfl, hb25⟩; clear tok25 _t; have hz25 := hb25.size; (try simp only [World.size_alloc, World.size_setCell, World.size_drew, World.size_drewN'] at hz25); (try (have kq := cellAt hb25 (w1.heap.size) (by go_size); have k25_w1_0_0 := kq 0; have k25_w1_0_1 := kq 1; have k25_w1_0_2 := kq 2; clear kq; have f25_w1_0 := frozAt hb25 (w1.heap.size) (by go_size); simp [go_sem, *] at k25_w1_0_0 k25_w1_0_1 k25_w1_0_2 f25_w1_0)); (try have l25_w1_0 : w1.heap.size < w25.heap.size := by omega); (try clear k21_w1_0_0 k21_w1_0_1 k21_w1_0_2 f21_w1_0); (try clear l21_w1_0); (try clear k22_w1_0_0 k22_w1_0_1 k22_w1_0_2 f22_w1_0); (try clear l22_w1_0); (try clear k23_w1_0_0 k23_w1_0_1 k23_w1_0_2 f23_w1_0); (try clear l23_w1_0); (try clear k24_w1_0_0 k24_w1_0_1 k24_w1_0_2 f24_w1_0); (try clear l24_w1_0)) | (have _t := tok26; go_at_call 16; (with_reducible refine ((TB _ (by repeat' first | (with_reducible first | apply zRf | assumption | apply zDn | apply zDr | apply zAl | apply zSt | refine zVi (by assumption) ?_ ?_) | go_size)).out).mono ?_); rintro e w26 ⟨rfl, hb26⟩; clear tok26 _t; have hz26 := hb26.size; (try simp only [World.size_alloc, World.size_setCell, World.size_drew, World.size_drewN'] at hz26); (try (have kq := cellAt hb26 (w1.heap.size) (by go_size); have k26_w1_0_0 := kq 0; have k26_w1_0_1 := kq 1; have k26_w1_0_2 := kq 2; clear kq; have f26_w1_0 := frozAt hb26 (w1.heap.size) (by go_size); simp [go_sem, *] at k26_w1_0_0 k26_w1_0_1 k26_w1_0_2 f26_w1_0)); (try have l26_w1_0 : w1.heap.size < w26.heap.size := by omega); (try clear k22_w1_0_0 k22_w1_0_1 k22_w1_0_2 f22_w1_0); (try clear l22_w1_0); (try clear k23_w1_0_0 k23_w1_0_1 k23_w1_0_2 f23_w1_0); (try clear l23_w1_0); (try clear k24_w1_0_0 k24_w1_0_1 k24_w1_0_2 f24_w1_0); (try clear l24_w1_0); (try clear k25_w1_0_0 k25_w1_0_1 k25_w1_0_2 f25_w1_0); (try clear l25_w1_0)) | (have _t := tok27; go_at_call 17; (with_reducible refine ((T27 _).out).mono ?_); rintro e w27 ⟨rfl, hb27⟩; clear tok27 _t; have hz27 := hb27.size; (try simp only [World.size_alloc, World.size_setCell, World.size_drew, World.size_drewN'] at hz27); (try (have kq := cellAt hb27 (w1.heap.size) (by go_size); have k27_w1_0_0 := kq 0; have k27_w1_0_1 := kq 1; have k27_w1_0_2 := kq 2; clear kq; have f27_w1_0 := frozAt hb27 (w1.heap.size) (by go_size); simp [go_sem, *] at k27_w1_0_0 k27_w1_0_1 k27_w1_0_2 f27_w1_0)); (try have l27_w1_0 : w1.heap.size < w27.heap.size := by omega); (try clear k23_w1_0_0 k23_w1_0_1 k23_w1_0_2 f23_w1_0); (try clear l23_w1_0); (try clear k24_w1_0_0 k24_w1_0_1 k24_w1_0_2 f24_w1_0); (try clear l24_w1_0); (try clear k25_w1_0_0 k25_w1_0_1 k25_w1_0_2 f25_w1_0); (try clear l25_w1_0); (try clear k26_w1_0_0 k26_w1_0_1 k26_w1_0_2 f26_w1_0); (try clear l26_w1_0))))
        all_goals (go_meet; exact ⟨by first | rfl | simp, by repeat' first | (with_reducible first | apply zRf | assumption | apply zDn | apply zDr | apply zAl | apply zSt | refine zVi (by assumption) ?_ ?_) | go_size⟩)
  case rest =>
    obtain ⟨rfl, hb39⟩ := hcut
    generalize wc = w39 at *
    clear TF TB T27 e0 e1 e2 e3 e4 e5 e6
    have Q8 := S5.below hb39
    have Q12 := S9.below hb39
    clear S3 S5 S7 S9 HB3 HB5 HB7 HB9 hx6 hx8 hx10 hx12 ho
    have H_Q_39 := (hb39.block (w1.heap.size) (blk_lt' H_Q_24.out)).trans H_Q_24.out
    clear k_Q_24_0 k_Q_24_1 k_Q_24_2 f_Q_24 H_Q_24
    obtain ⟨k_Q_39_0, k_Q_39_1, k_Q_39_2, f_Q_39, l_Q_39⟩ := bk3 H_Q_39
    replace H_Q_39 := Lib.hid H_Q_39
    have hB39 : Below w.heap.size w w39 := below_via hb39 (by assumption) (by first | exact hB24.size | go_size)
    iterate 90 (first | ((with_reducible show Code.wp _ (.seq (.seq (.region 17 _ _) _) _) _ _ _); exact FnPl_17 hB39 H_Q_39.out (Q8) (Q12) hL hkb Fs.out Fk.out Fb.out Fl.out) | go_values | go_skip | go_guarded | go_step | go_upon | go_back | skip)
end Go.Proofs.YtegiddpakocodaaGreat
