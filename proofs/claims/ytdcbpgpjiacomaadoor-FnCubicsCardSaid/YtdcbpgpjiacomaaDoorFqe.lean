/- FnCubics: the walk of the law. -/
import Derived.Test.YtdcbpgpjiacomaaDoorFqd
import Derived.Test.YtdcbpgpjiacomaaDoorOpen5
namespace Go.Proofs.YtdcbpgpjiacomaaDoor
open Go.RowKit
set_option linter.unusedVariables false
set_option maxHeartbeats 0
set_option maxRecDepth 20000
set_option linter.unusedSimpArgs false

theorem FnCubics_any {s1 s2 : Option Addr} {m1 c1 m2 c2 : Nat} (w : World) (h1 : ByW w s1 m1) (h2 : ByW w s2 m2) (ht : Lib.TabIs Tryd.prog w "internal/strconv.uint64pow10" .u64 Lib.pow10Tab) : Calls Tryd.prog 4 #[.slice s1 m1 c1, .slice s2 m2 c2] w fun e w' => e = .returned (.bool true) ∧ Below w.heap.size w w' := by
  by_cases hbig : (1048576 : Int) < wrap64 ((m1 : Int) + m2)
  · go_enter Tryd.func4, Tryd.ntmps4
    go_wp2_with fail
    go_ret
    refine ⟨rfl, ?_⟩
    repeat' first | (with_reducible first | apply zRf | assumption | apply zDn | apply zDr | apply zAl | apply zSt | refine zVi (by assumption) ?_ ?_) | go_size
  replace ht := Lib.hid ht
  have tok1 : True := trivial
  have tok2 : True := trivial
  have tok3 : True := trivial
  have tok4 : True := trivial
  have tok5 : True := trivial
  have tok6 : True := trivial
  have tok7 : True := trivial
  have tok8 : True := trivial
  have tok9 : True := trivial
  have tok10 : True := trivial
  have tok11 : True := trivial
  have tok12 : True := trivial
  have tok13 : True := trivial
  have tok14 : True := trivial
  have tok15 : True := trivial
  have tok16 : True := trivial
  have tok17 : True := trivial
  have tok18 : True := trivial
  have tok19 : True := trivial
  have tok20 : True := trivial
  have tok21 : True := trivial
  have tok22 : True := trivial
  have tok23 : True := trivial
  have tok24 : True := trivial
  have tok25 : True := trivial
  have tok26 : True := trivial
  have tok27 : True := trivial
  have tok28 : True := trivial
  have tok29 : True := trivial
  have tok30 : True := trivial
  have tok31 : True := trivial
  have tok32 : True := trivial
  have tok33 : True := trivial
  go_enter Tryd.func4, Tryd.ntmps4
  go_upto_region 4 with (first | (have _t := tok1; go_at_call 10; refine (DrawShiftCubic_any (h1.below (by repeat' first | (with_reducible first | apply zRf | assumption | apply zDn | apply zDr | apply zAl | apply zSt | refine zVi (by assumption) ?_ ?_) | go_size))).mono ?_; rintro e w1 ⟨a, b, c, d, k, rfl, hk, hb1⟩; clear tok1 _t; have hz1 := hb1.size; (try simp only [World.size_alloc, World.size_setCell, World.size_drew, World.size_drewN'] at hz1)))
  obtain ⟨S1, S2, S3, S4, o1, R3, R5, Fs, Fx⟩ := cu_set1 a b c d k
  have T3 := fun W : World => Lib.hid (R3 W)
  have T5 := fun W : World => Lib.hid (R5 W)
  clear R3 R5
  replace Fs := Lib.hid Fs
  replace Fx := Lib.hid Fx
  refine chk (fun W => Below w.heap.size w W ∧ W.heap[w1.heap.size]? = some (.cells #[.int .i64 a, .int .i64 b, .int .i64 c, .int .i64 d] 42 (0, 0))) (by refine ⟨?_, ?_⟩ <;> (repeat' first | (with_reducible first | assumption | (apply Ne.symm; assumption) | apply Nat.le_refl | apply Nat.le_add_right | apply zL | apply zRf | apply Wx.box | apply Wx.box4 | apply zWa | apply Wx.drew | apply zWn | apply bx_drew | apply bx_drewN | apply bx_set3 | apply bx_set2 | apply bx_set4 | apply bx_set1) | ((with_reducible apply bx_new); (focus (go_size; done))) | (with_reducible first | apply zOl | apply zFa | apply zDn | apply zDr | apply zAl | apply zSt | refine zVi (by assumption) ?_ ?_) | go_size | omega)) ?_
  rintro w2 ⟨hB2, H_F_2⟩
  obtain ⟨k_F_2_0, k_F_2_1, k_F_2_2, k_F_2_3, f_F_2, l_F_2⟩ := bk4 H_F_2
  replace H_F_2 := Lib.hid H_F_2
  clear hb1 h1 hbig
  go_upto_region 5 with (first | (have _t := tok3; go_at_call 11; (with_reducible refine ((T3 _).out).mono ?_); rintro e w3 ⟨rfl, hb3⟩; clear tok3 _t; have hz3 := hb3.size; (try simp only [World.size_alloc, World.size_setCell, World.size_drew, World.size_drewN'] at hz3)))
  have H_F_3 := (hb3.block (w1.heap.size) (blk_lt' H_F_2.out)).trans H_F_2.out
  clear k_F_2_0 k_F_2_1 k_F_2_2 k_F_2_3 f_F_2 H_F_2
  obtain ⟨k_F_3_0, k_F_3_1, k_F_3_2, k_F_3_3, f_F_3, l_F_3⟩ := bk4 H_F_3
  replace H_F_3 := Lib.hid H_F_3
  have hB3 : Below w.heap.size w w3 := below_via hb3 (by assumption) (by first | exact hB2.size | go_size)
  clear hb3 T3
  replace H_F_3 := H_F_3.out
  refine chk (fun W => Below w.heap.size w W ∧ W.heap[w1.heap.size]? = some (.cells #[.int .i64 a, .int .i64 b, .int .i64 c, .int .i64 d] 42 (0, 0)) ∧ W.heap[w3.heap.size]? = some (.cells #[.int .i64 S1, .int .i64 S2, .int .i64 S3, .int .i64 S4] 42 (0, 0))) (by refine ⟨?_, ?_, ?_⟩ <;> (repeat' first | (with_reducible first | assumption | (apply Ne.symm; assumption) | apply Nat.le_refl | apply Nat.le_add_right | apply zL | apply zRf | apply Wx.box | apply Wx.box4 | apply zWa | apply Wx.drew | apply zWn | apply bx_drew | apply bx_drewN | apply bx_set3 | apply bx_set2 | apply bx_set4 | apply bx_set1) | ((with_reducible apply bx_new); (focus (go_size; done))) | (with_reducible first | apply zOl | apply zFa | apply zDn | apply zDr | apply zAl | apply zSt | refine zVi (by assumption) ?_ ?_) | go_size | omega)) ?_
  clear k_F_3_0 k_F_3_1 k_F_3_2 k_F_3_3 f_F_3 H_F_3
  clear hB3
  rintro w4 ⟨hB4, H_F_4, H_S_4⟩
  obtain ⟨k_F_4_0, k_F_4_1, k_F_4_2, k_F_4_3, f_F_4, l_F_4⟩ := bk4 H_F_4
  replace H_F_4 := Lib.hid H_F_4
  obtain ⟨k_S_4_0, k_S_4_1, k_S_4_2, k_S_4_3, f_S_4, l_S_4⟩ := bk4 H_S_4
  replace H_S_4 := Lib.hid H_S_4
  go_upto_region 6 with (first | (have _t := tok5; go_at_call 12; (with_reducible refine ((T5 _).out).mono ?_); rintro e w5 ⟨rfl, hb5⟩; clear tok5 _t; have hz5 := hb5.size; (try simp only [World.size_alloc, World.size_setCell, World.size_drew, World.size_drewN'] at hz5)))
  have H_F_5 := (hb5.block (w1.heap.size) (blk_lt' H_F_4.out)).trans H_F_4.out
  clear k_F_4_0 k_F_4_1 k_F_4_2 k_F_4_3 f_F_4 H_F_4
  obtain ⟨k_F_5_0, k_F_5_1, k_F_5_2, k_F_5_3, f_F_5, l_F_5⟩ := bk4 H_F_5
  replace H_F_5 := Lib.hid H_F_5
  have H_S_5 := (hb5.block (w3.heap.size) (blk_lt' H_S_4.out)).trans H_S_4.out
  clear k_S_4_0 k_S_4_1 k_S_4_2 k_S_4_3 f_S_4 H_S_4
  obtain ⟨k_S_5_0, k_S_5_1, k_S_5_2, k_S_5_3, f_S_5, l_S_5⟩ := bk4 H_S_5
  replace H_S_5 := Lib.hid H_S_5
  have hB5 : Below w.heap.size w w5 := below_via hb5 (by assumption) (by first | exact hB4.size | go_size)
  clear hb5 T5
  replace H_F_5 := H_F_5.out
  replace H_S_5 := H_S_5.out
  refine chk (fun W => Below w.heap.size w W ∧ W.heap[w1.heap.size]? = some (.cells #[.int .i64 a, .int .i64 b, .int .i64 c, .int .i64 d] 42 (0, 0)) ∧ W.heap[w3.heap.size]? = some (.cells #[.int .i64 S1, .int .i64 S2, .int .i64 S3, .int .i64 S4] 42 (0, 0)) ∧ W.heap[w5.heap.size]? = some (.cells #[.int .i64 S1, .int .i64 S2, .int .i64 S3, .int .i64 S4] 42 (0, 0))) (by refine ⟨?_, ?_, ?_, ?_⟩ <;> (repeat' first | (with_reducible first | assumption | (apply Ne.symm; assumption) | apply Nat.le_refl | apply Nat.le_add_right | apply zL | apply zRf | apply Wx.box | apply Wx.box4 | apply zWa | apply Wx.drew | apply zWn | apply bx_drew | apply bx_drewN | apply bx_set3 | apply bx_set2 | apply bx_set4 | apply bx_set1) | ((with_reducible apply bx_new); (focus (go_size; done))) | (with_reducible first | apply zOl | apply zFa | apply zDn | apply zDr | apply zAl | apply zSt | refine zVi (by assumption) ?_ ?_) | go_size | omega)) ?_
  clear k_F_5_0 k_F_5_1 k_F_5_2 k_F_5_3 f_F_5 H_F_5
  clear k_S_5_0 k_S_5_1 k_S_5_2 k_S_5_3 f_S_5 H_S_5
  clear hB5
  rintro w6 ⟨hB6, H_F_6, H_S_6, H_Sz_6⟩
  obtain ⟨k_F_6_0, k_F_6_1, k_F_6_2, k_F_6_3, f_F_6, l_F_6⟩ := bk4 H_F_6
  replace H_F_6 := Lib.hid H_F_6
  obtain ⟨k_S_6_0, k_S_6_1, k_S_6_2, k_S_6_3, f_S_6, l_S_6⟩ := bk4 H_S_6
  replace H_S_6 := Lib.hid H_S_6
  obtain ⟨k_Sz_6_0, k_Sz_6_1, k_Sz_6_2, k_Sz_6_3, f_Sz_6, l_Sz_6⟩ := bk4 H_Sz_6
  replace H_Sz_6 := Lib.hid H_Sz_6
  go_upto_region 7 with (first | (have _t := tok7; go_at_call 13; refine (DrawContentOf_any (h2.below (by repeat' first | (with_reducible first | apply zRf | assumption | apply zDn | apply zDr | apply zAl | apply zSt | refine zVi (by assumption) ?_ ?_) | go_size))).mono ?_; rintro e w7 ⟨ga, gb, gc, gd, rfl, hb7⟩; clear tok7 _t; have hz7 := hb7.size; (try simp only [World.size_alloc, World.size_setCell, World.size_drew, World.size_drewN'] at hz7)))
  have H_F_7 := (hb7.block (w1.heap.size) (blk_lt' H_F_6.out)).trans H_F_6.out
  clear k_F_6_0 k_F_6_1 k_F_6_2 k_F_6_3 f_F_6 H_F_6
  obtain ⟨k_F_7_0, k_F_7_1, k_F_7_2, k_F_7_3, f_F_7, l_F_7⟩ := bk4 H_F_7
  replace H_F_7 := Lib.hid H_F_7
  have H_S_7 := (hb7.block (w3.heap.size) (blk_lt' H_S_6.out)).trans H_S_6.out
  clear k_S_6_0 k_S_6_1 k_S_6_2 k_S_6_3 f_S_6 H_S_6
  obtain ⟨k_S_7_0, k_S_7_1, k_S_7_2, k_S_7_3, f_S_7, l_S_7⟩ := bk4 H_S_7
  replace H_S_7 := Lib.hid H_S_7
  have H_Sz_7 := (hb7.block (w5.heap.size) (blk_lt' H_Sz_6.out)).trans H_Sz_6.out
  clear k_Sz_6_0 k_Sz_6_1 k_Sz_6_2 k_Sz_6_3 f_Sz_6 H_Sz_6
  obtain ⟨k_Sz_7_0, k_Sz_7_1, k_Sz_7_2, k_Sz_7_3, f_Sz_7, l_Sz_7⟩ := bk4 H_Sz_7
  replace H_Sz_7 := Lib.hid H_Sz_7
  have hB7 : Below w.heap.size w w7 := below_via hb7 (by assumption) (by first | exact hB6.size | go_size)
  clear hb7
  obtain ⟨N, C1, C2, C3, C4, o2, R1, R2, R3, R4, o3, T, R9, R11, R13, R15, R17, R19, R33, Fo, Fn, Fr⟩ := cu_set2 ga gb gc gd
  have T9 := fun W : World => Lib.hid (R9 W)
  have T11 := fun W : World => Lib.hid (R11 W)
  have T13 := fun W : World => Lib.hid (R13 W)
  have T15 := fun W : World => Lib.hid (R15 W)
  have T19 := fun W : World => Lib.hid (R19 W)
  have T33 := fun W : World => Lib.hid (R33 W)
  have T17 := fun (W : World) (hW : Below w.heap.size w W) => R17 w W ht.out hW
  clear R17 ht
  clear R9 R11 R13 R15 R19 R33
  replace Fo := Lib.hid Fo
  replace Fn := Lib.hid Fn
  replace Fr := Lib.hid Fr
  replace H_F_7 := H_F_7.out
  replace H_S_7 := H_S_7.out
  replace H_Sz_7 := H_Sz_7.out
  refine chk (fun W => Below w.heap.size w W ∧ W.heap[w1.heap.size]? = some (.cells #[.int .i64 a, .int .i64 b, .int .i64 c, .int .i64 d] 42 (0, 0)) ∧ W.heap[w3.heap.size]? = some (.cells #[.int .i64 S1, .int .i64 S2, .int .i64 S3, .int .i64 S4] 42 (0, 0)) ∧ W.heap[w5.heap.size]? = some (.cells #[.int .i64 S1, .int .i64 S2, .int .i64 S3, .int .i64 S4] 42 (0, 0)) ∧ W.heap[w7.heap.size]? = some (.cells #[.int .i64 ga, .int .i64 gb, .int .i64 gc, .int .i64 gd] 42 (0, 0))) (by refine ⟨?_, ?_, ?_, ?_, ?_⟩ <;> (repeat' first | (with_reducible first | assumption | (apply Ne.symm; assumption) | apply Nat.le_refl | apply Nat.le_add_right | apply zL | apply zRf | apply Wx.box | apply Wx.box4 | apply zWa | apply Wx.drew | apply zWn | apply bx_drew | apply bx_drewN | apply bx_set3 | apply bx_set2 | apply bx_set4 | apply bx_set1) | ((with_reducible apply bx_new); (focus (go_size; done))) | (with_reducible first | apply zOl | apply zFa | apply zDn | apply zDr | apply zAl | apply zSt | refine zVi (by assumption) ?_ ?_) | go_size | omega)) ?_
  clear k_F_7_0 k_F_7_1 k_F_7_2 k_F_7_3 f_F_7 H_F_7
  clear k_S_7_0 k_S_7_1 k_S_7_2 k_S_7_3 f_S_7 H_S_7
  clear k_Sz_7_0 k_Sz_7_1 k_Sz_7_2 k_Sz_7_3 f_Sz_7 H_Sz_7
  clear hB7
  rintro w8 ⟨hB8, H_F_8, H_S_8, H_Sz_8, H_G_8⟩
  obtain ⟨k_F_8_0, k_F_8_1, k_F_8_2, k_F_8_3, f_F_8, l_F_8⟩ := bk4 H_F_8
  replace H_F_8 := Lib.hid H_F_8
  obtain ⟨k_S_8_0, k_S_8_1, k_S_8_2, k_S_8_3, f_S_8, l_S_8⟩ := bk4 H_S_8
  replace H_S_8 := Lib.hid H_S_8
  obtain ⟨k_Sz_8_0, k_Sz_8_1, k_Sz_8_2, k_Sz_8_3, f_Sz_8, l_Sz_8⟩ := bk4 H_Sz_8
  replace H_Sz_8 := Lib.hid H_Sz_8
  obtain ⟨k_G_8_0, k_G_8_1, k_G_8_2, k_G_8_3, f_G_8, l_G_8⟩ := bk4 H_G_8
  replace H_G_8 := Lib.hid H_G_8
  go_upto_region 8 with (first | (have _t := tok9; go_at_call 14; (with_reducible refine ((T9 _).out).mono ?_); rintro e w9 ⟨rfl, hb9⟩; clear tok9 _t; have hz9 := hb9.size; (try simp only [World.size_alloc, World.size_setCell, World.size_drew, World.size_drewN'] at hz9)))
  have H_F_9 := (hb9.block (w1.heap.size) (blk_lt' H_F_8.out)).trans H_F_8.out
  clear k_F_8_0 k_F_8_1 k_F_8_2 k_F_8_3 f_F_8 H_F_8
  obtain ⟨k_F_9_0, k_F_9_1, k_F_9_2, k_F_9_3, f_F_9, l_F_9⟩ := bk4 H_F_9
  replace H_F_9 := Lib.hid H_F_9
  have H_S_9 := (hb9.block (w3.heap.size) (blk_lt' H_S_8.out)).trans H_S_8.out
  clear k_S_8_0 k_S_8_1 k_S_8_2 k_S_8_3 f_S_8 H_S_8
  obtain ⟨k_S_9_0, k_S_9_1, k_S_9_2, k_S_9_3, f_S_9, l_S_9⟩ := bk4 H_S_9
  replace H_S_9 := Lib.hid H_S_9
  have H_Sz_9 := (hb9.block (w5.heap.size) (blk_lt' H_Sz_8.out)).trans H_Sz_8.out
  clear k_Sz_8_0 k_Sz_8_1 k_Sz_8_2 k_Sz_8_3 f_Sz_8 H_Sz_8
  obtain ⟨k_Sz_9_0, k_Sz_9_1, k_Sz_9_2, k_Sz_9_3, f_Sz_9, l_Sz_9⟩ := bk4 H_Sz_9
  replace H_Sz_9 := Lib.hid H_Sz_9
  have H_G_9 := (hb9.block (w7.heap.size) (blk_lt' H_G_8.out)).trans H_G_8.out
  clear k_G_8_0 k_G_8_1 k_G_8_2 k_G_8_3 f_G_8 H_G_8
  obtain ⟨k_G_9_0, k_G_9_1, k_G_9_2, k_G_9_3, f_G_9, l_G_9⟩ := bk4 H_G_9
  replace H_G_9 := Lib.hid H_G_9
  have hB9 : Below w.heap.size w w9 := below_via hb9 (by assumption) (by first | exact hB8.size | go_size)
  clear hb9 T9
  replace H_F_9 := H_F_9.out
  replace H_S_9 := H_S_9.out
  replace H_Sz_9 := H_Sz_9.out
  replace H_G_9 := H_G_9.out
  refine chk (fun W => Below w.heap.size w W ∧ W.heap[w1.heap.size]? = some (.cells #[.int .i64 a, .int .i64 b, .int .i64 c, .int .i64 d] 42 (0, 0)) ∧ W.heap[w3.heap.size]? = some (.cells #[.int .i64 S1, .int .i64 S2, .int .i64 S3, .int .i64 S4] 42 (0, 0)) ∧ W.heap[w5.heap.size]? = some (.cells #[.int .i64 S1, .int .i64 S2, .int .i64 S3, .int .i64 S4] 42 (0, 0)) ∧ W.heap[w7.heap.size]? = some (.cells #[.int .i64 ga, .int .i64 gb, .int .i64 gc, .int .i64 gd] 42 (0, 0)) ∧ W.heap[w9.heap.size]? = some (.cells #[.int .i64 C1, .int .i64 C2, .int .i64 C3, .int .i64 C4] 42 (0, 0))) (by refine ⟨?_, ?_, ?_, ?_, ?_, ?_⟩ <;> (repeat' first | (with_reducible first | assumption | (apply Ne.symm; assumption) | apply Nat.le_refl | apply Nat.le_add_right | apply zL | apply zRf | apply Wx.box | apply Wx.box4 | apply zWa | apply Wx.drew | apply zWn | apply bx_drew | apply bx_drewN | apply bx_set3 | apply bx_set2 | apply bx_set4 | apply bx_set1) | ((with_reducible apply bx_new); (focus (go_size; done))) | (with_reducible first | apply zOl | apply zFa | apply zDn | apply zDr | apply zAl | apply zSt | refine zVi (by assumption) ?_ ?_) | go_size | omega)) ?_
  clear k_F_9_0 k_F_9_1 k_F_9_2 k_F_9_3 f_F_9 H_F_9
  clear k_S_9_0 k_S_9_1 k_S_9_2 k_S_9_3 f_S_9 H_S_9
  clear k_Sz_9_0 k_Sz_9_1 k_Sz_9_2 k_Sz_9_3 f_Sz_9 H_Sz_9
  clear k_G_9_0 k_G_9_1 k_G_9_2 k_G_9_3 f_G_9 H_G_9
  clear hB9
  rintro w10 ⟨hB10, H_F_10, H_S_10, H_Sz_10, H_G_10, H_C_10⟩
  obtain ⟨k_F_10_0, k_F_10_1, k_F_10_2, k_F_10_3, f_F_10, l_F_10⟩ := bk4 H_F_10
  replace H_F_10 := Lib.hid H_F_10
  obtain ⟨k_S_10_0, k_S_10_1, k_S_10_2, k_S_10_3, f_S_10, l_S_10⟩ := bk4 H_S_10
  replace H_S_10 := Lib.hid H_S_10
  obtain ⟨k_Sz_10_0, k_Sz_10_1, k_Sz_10_2, k_Sz_10_3, f_Sz_10, l_Sz_10⟩ := bk4 H_Sz_10
  replace H_Sz_10 := Lib.hid H_Sz_10
  obtain ⟨k_G_10_0, k_G_10_1, k_G_10_2, k_G_10_3, f_G_10, l_G_10⟩ := bk4 H_G_10
  replace H_G_10 := Lib.hid H_G_10
  obtain ⟨k_C_10_0, k_C_10_1, k_C_10_2, k_C_10_3, f_C_10, l_C_10⟩ := bk4 H_C_10
  replace H_C_10 := Lib.hid H_C_10
  go_upto_region 9 with (first | (have _t := tok11; go_at_call 15; (with_reducible refine ((T11 _).out).mono ?_); rintro e w11 ⟨rfl, hb11⟩; clear tok11 _t; have hz11 := hb11.size; (try simp only [World.size_alloc, World.size_setCell, World.size_drew, World.size_drewN'] at hz11)))
  have H_F_11 := (hb11.block (w1.heap.size) (blk_lt' H_F_10.out)).trans H_F_10.out
  clear k_F_10_0 k_F_10_1 k_F_10_2 k_F_10_3 f_F_10 H_F_10
  obtain ⟨k_F_11_0, k_F_11_1, k_F_11_2, k_F_11_3, f_F_11, l_F_11⟩ := bk4 H_F_11
  replace H_F_11 := Lib.hid H_F_11
  have H_S_11 := (hb11.block (w3.heap.size) (blk_lt' H_S_10.out)).trans H_S_10.out
  clear k_S_10_0 k_S_10_1 k_S_10_2 k_S_10_3 f_S_10 H_S_10
  obtain ⟨k_S_11_0, k_S_11_1, k_S_11_2, k_S_11_3, f_S_11, l_S_11⟩ := bk4 H_S_11
  replace H_S_11 := Lib.hid H_S_11
  have H_Sz_11 := (hb11.block (w5.heap.size) (blk_lt' H_Sz_10.out)).trans H_Sz_10.out
  clear k_Sz_10_0 k_Sz_10_1 k_Sz_10_2 k_Sz_10_3 f_Sz_10 H_Sz_10
  obtain ⟨k_Sz_11_0, k_Sz_11_1, k_Sz_11_2, k_Sz_11_3, f_Sz_11, l_Sz_11⟩ := bk4 H_Sz_11
  replace H_Sz_11 := Lib.hid H_Sz_11
  have H_G_11 := (hb11.block (w7.heap.size) (blk_lt' H_G_10.out)).trans H_G_10.out
  clear k_G_10_0 k_G_10_1 k_G_10_2 k_G_10_3 f_G_10 H_G_10
  obtain ⟨k_G_11_0, k_G_11_1, k_G_11_2, k_G_11_3, f_G_11, l_G_11⟩ := bk4 H_G_11
  replace H_G_11 := Lib.hid H_G_11
  have H_C_11 := (hb11.block (w9.heap.size) (blk_lt' H_C_10.out)).trans H_C_10.out
  clear k_C_10_0 k_C_10_1 k_C_10_2 k_C_10_3 f_C_10 H_C_10
  obtain ⟨k_C_11_0, k_C_11_1, k_C_11_2, k_C_11_3, f_C_11, l_C_11⟩ := bk4 H_C_11
  replace H_C_11 := Lib.hid H_C_11
  have hB11 : Below w.heap.size w w11 := below_via hb11 (by assumption) (by first | exact hB10.size | go_size)
  clear hb11 T11
  replace H_F_11 := H_F_11.out
  replace H_S_11 := H_S_11.out
  replace H_Sz_11 := H_Sz_11.out
  replace H_G_11 := H_G_11.out
  replace H_C_11 := H_C_11.out
  refine chk (fun W => Below w.heap.size w W ∧ W.heap[w1.heap.size]? = some (.cells #[.int .i64 a, .int .i64 b, .int .i64 c, .int .i64 d] 42 (0, 0)) ∧ W.heap[w3.heap.size]? = some (.cells #[.int .i64 S1, .int .i64 S2, .int .i64 S3, .int .i64 S4] 42 (0, 0)) ∧ W.heap[w5.heap.size]? = some (.cells #[.int .i64 S1, .int .i64 S2, .int .i64 S3, .int .i64 S4] 42 (0, 0)) ∧ W.heap[w7.heap.size]? = some (.cells #[.int .i64 ga, .int .i64 gb, .int .i64 gc, .int .i64 gd] 42 (0, 0)) ∧ W.heap[w9.heap.size]? = some (.cells #[.int .i64 C1, .int .i64 C2, .int .i64 C3, .int .i64 C4] 42 (0, 0)) ∧ W.heap[w11.heap.size]? = some (.cells #[.int .i64 C1, .int .i64 C2, .int .i64 C3, .int .i64 C4] 42 (0, 0))) (by refine ⟨?_, ?_, ?_, ?_, ?_, ?_, ?_⟩ <;> (repeat' first | (with_reducible first | assumption | (apply Ne.symm; assumption) | apply Nat.le_refl | apply Nat.le_add_right | apply zL | apply zRf | apply Wx.box | apply Wx.box4 | apply zWa | apply Wx.drew | apply zWn | apply bx_drew | apply bx_drewN | apply bx_set3 | apply bx_set2 | apply bx_set4 | apply bx_set1) | ((with_reducible apply bx_new); (focus (go_size; done))) | (with_reducible first | apply zOl | apply zFa | apply zDn | apply zDr | apply zAl | apply zSt | refine zVi (by assumption) ?_ ?_) | go_size | omega)) ?_
  clear k_F_11_0 k_F_11_1 k_F_11_2 k_F_11_3 f_F_11 H_F_11
  clear k_S_11_0 k_S_11_1 k_S_11_2 k_S_11_3 f_S_11 H_S_11
  clear k_Sz_11_0 k_Sz_11_1 k_Sz_11_2 k_Sz_11_3 f_Sz_11 H_Sz_11
  clear k_G_11_0 k_G_11_1 k_G_11_2 k_G_11_3 f_G_11 H_G_11
  clear k_C_11_0 k_C_11_1 k_C_11_2 k_C_11_3 f_C_11 H_C_11
  clear hB11
  rintro w12 ⟨hB12, H_F_12, H_S_12, H_Sz_12, H_G_12, H_C_12, H_D_12⟩
  obtain ⟨k_F_12_0, k_F_12_1, k_F_12_2, k_F_12_3, f_F_12, l_F_12⟩ := bk4 H_F_12
  replace H_F_12 := Lib.hid H_F_12
  obtain ⟨k_S_12_0, k_S_12_1, k_S_12_2, k_S_12_3, f_S_12, l_S_12⟩ := bk4 H_S_12
  replace H_S_12 := Lib.hid H_S_12
  obtain ⟨k_Sz_12_0, k_Sz_12_1, k_Sz_12_2, k_Sz_12_3, f_Sz_12, l_Sz_12⟩ := bk4 H_Sz_12
  replace H_Sz_12 := Lib.hid H_Sz_12
  obtain ⟨k_G_12_0, k_G_12_1, k_G_12_2, k_G_12_3, f_G_12, l_G_12⟩ := bk4 H_G_12
  replace H_G_12 := Lib.hid H_G_12
  obtain ⟨k_C_12_0, k_C_12_1, k_C_12_2, k_C_12_3, f_C_12, l_C_12⟩ := bk4 H_C_12
  replace H_C_12 := Lib.hid H_C_12
  obtain ⟨k_D_12_0, k_D_12_1, k_D_12_2, k_D_12_3, f_D_12, l_D_12⟩ := bk4 H_D_12
  replace H_D_12 := Lib.hid H_D_12
  go_upto_region 10 with (first | (have _t := tok13; go_at_call 16; (with_reducible refine ((T13 _).out).mono ?_); rintro e w13 ⟨rfl, hb13⟩; clear tok13 _t; have hz13 := hb13.size; (try simp only [World.size_alloc, World.size_setCell, World.size_drew, World.size_drewN'] at hz13)))
  have H_F_13 := (hb13.block (w1.heap.size) (blk_lt' H_F_12.out)).trans H_F_12.out
  clear k_F_12_0 k_F_12_1 k_F_12_2 k_F_12_3 f_F_12 H_F_12
  obtain ⟨k_F_13_0, k_F_13_1, k_F_13_2, k_F_13_3, f_F_13, l_F_13⟩ := bk4 H_F_13
  replace H_F_13 := Lib.hid H_F_13
  have H_S_13 := (hb13.block (w3.heap.size) (blk_lt' H_S_12.out)).trans H_S_12.out
  clear k_S_12_0 k_S_12_1 k_S_12_2 k_S_12_3 f_S_12 H_S_12
  obtain ⟨k_S_13_0, k_S_13_1, k_S_13_2, k_S_13_3, f_S_13, l_S_13⟩ := bk4 H_S_13
  replace H_S_13 := Lib.hid H_S_13
  have H_Sz_13 := (hb13.block (w5.heap.size) (blk_lt' H_Sz_12.out)).trans H_Sz_12.out
  clear k_Sz_12_0 k_Sz_12_1 k_Sz_12_2 k_Sz_12_3 f_Sz_12 H_Sz_12
  obtain ⟨k_Sz_13_0, k_Sz_13_1, k_Sz_13_2, k_Sz_13_3, f_Sz_13, l_Sz_13⟩ := bk4 H_Sz_13
  replace H_Sz_13 := Lib.hid H_Sz_13
  have H_G_13 := (hb13.block (w7.heap.size) (blk_lt' H_G_12.out)).trans H_G_12.out
  clear k_G_12_0 k_G_12_1 k_G_12_2 k_G_12_3 f_G_12 H_G_12
  obtain ⟨k_G_13_0, k_G_13_1, k_G_13_2, k_G_13_3, f_G_13, l_G_13⟩ := bk4 H_G_13
  replace H_G_13 := Lib.hid H_G_13
  have H_C_13 := (hb13.block (w9.heap.size) (blk_lt' H_C_12.out)).trans H_C_12.out
  clear k_C_12_0 k_C_12_1 k_C_12_2 k_C_12_3 f_C_12 H_C_12
  obtain ⟨k_C_13_0, k_C_13_1, k_C_13_2, k_C_13_3, f_C_13, l_C_13⟩ := bk4 H_C_13
  replace H_C_13 := Lib.hid H_C_13
  have H_D_13 := (hb13.block (w11.heap.size) (blk_lt' H_D_12.out)).trans H_D_12.out
  clear k_D_12_0 k_D_12_1 k_D_12_2 k_D_12_3 f_D_12 H_D_12
  obtain ⟨k_D_13_0, k_D_13_1, k_D_13_2, k_D_13_3, f_D_13, l_D_13⟩ := bk4 H_D_13
  replace H_D_13 := Lib.hid H_D_13
  have hB13 : Below w.heap.size w w13 := below_via hb13 (by assumption) (by first | exact hB12.size | go_size)
  clear hb13 T13
  replace H_F_13 := H_F_13.out
  replace H_S_13 := H_S_13.out
  replace H_Sz_13 := H_Sz_13.out
  replace H_G_13 := H_G_13.out
  replace H_C_13 := H_C_13.out
  replace H_D_13 := H_D_13.out
  refine chk (fun W => Below w.heap.size w W ∧ W.heap[w1.heap.size]? = some (.cells #[.int .i64 a, .int .i64 b, .int .i64 c, .int .i64 d] 42 (0, 0)) ∧ W.heap[w3.heap.size]? = some (.cells #[.int .i64 S1, .int .i64 S2, .int .i64 S3, .int .i64 S4] 42 (0, 0)) ∧ W.heap[w5.heap.size]? = some (.cells #[.int .i64 S1, .int .i64 S2, .int .i64 S3, .int .i64 S4] 42 (0, 0)) ∧ W.heap[w7.heap.size]? = some (.cells #[.int .i64 ga, .int .i64 gb, .int .i64 gc, .int .i64 gd] 42 (0, 0)) ∧ W.heap[w9.heap.size]? = some (.cells #[.int .i64 C1, .int .i64 C2, .int .i64 C3, .int .i64 C4] 42 (0, 0)) ∧ W.heap[w11.heap.size]? = some (.cells #[.int .i64 C1, .int .i64 C2, .int .i64 C3, .int .i64 C4] 42 (0, 0)) ∧ W.heap[w13.heap.size]? = some (.cells #[.int .i64 R1, .int .i64 R2, .int .i64 R3, .int .i64 R4] 42 (0, 0))) (by refine ⟨?_, ?_, ?_, ?_, ?_, ?_, ?_, ?_⟩ <;> (repeat' first | (with_reducible first | assumption | (apply Ne.symm; assumption) | apply Nat.le_refl | apply Nat.le_add_right | apply zL | apply zRf | apply Wx.box | apply Wx.box4 | apply zWa | apply Wx.drew | apply zWn | apply bx_drew | apply bx_drewN | apply bx_set3 | apply bx_set2 | apply bx_set4 | apply bx_set1) | ((with_reducible apply bx_new); (focus (go_size; done))) | (with_reducible first | apply zOl | apply zFa | apply zDn | apply zDr | apply zAl | apply zSt | refine zVi (by assumption) ?_ ?_) | go_size | omega)) ?_
  clear k_F_13_0 k_F_13_1 k_F_13_2 k_F_13_3 f_F_13 H_F_13
  clear k_S_13_0 k_S_13_1 k_S_13_2 k_S_13_3 f_S_13 H_S_13
  clear k_Sz_13_0 k_Sz_13_1 k_Sz_13_2 k_Sz_13_3 f_Sz_13 H_Sz_13
  clear k_G_13_0 k_G_13_1 k_G_13_2 k_G_13_3 f_G_13 H_G_13
  clear k_C_13_0 k_C_13_1 k_C_13_2 k_C_13_3 f_C_13 H_C_13
  clear k_D_13_0 k_D_13_1 k_D_13_2 k_D_13_3 f_D_13 H_D_13
  clear hB13
  rintro w14 ⟨hB14, H_F_14, H_S_14, H_Sz_14, H_G_14, H_C_14, H_D_14, H_R_14⟩
  obtain ⟨k_F_14_0, k_F_14_1, k_F_14_2, k_F_14_3, f_F_14, l_F_14⟩ := bk4 H_F_14
  replace H_F_14 := Lib.hid H_F_14
  obtain ⟨k_S_14_0, k_S_14_1, k_S_14_2, k_S_14_3, f_S_14, l_S_14⟩ := bk4 H_S_14
  replace H_S_14 := Lib.hid H_S_14
  obtain ⟨k_Sz_14_0, k_Sz_14_1, k_Sz_14_2, k_Sz_14_3, f_Sz_14, l_Sz_14⟩ := bk4 H_Sz_14
  replace H_Sz_14 := Lib.hid H_Sz_14
  obtain ⟨k_G_14_0, k_G_14_1, k_G_14_2, k_G_14_3, f_G_14, l_G_14⟩ := bk4 H_G_14
  replace H_G_14 := Lib.hid H_G_14
  obtain ⟨k_C_14_0, k_C_14_1, k_C_14_2, k_C_14_3, f_C_14, l_C_14⟩ := bk4 H_C_14
  replace H_C_14 := Lib.hid H_C_14
  obtain ⟨k_D_14_0, k_D_14_1, k_D_14_2, k_D_14_3, f_D_14, l_D_14⟩ := bk4 H_D_14
  replace H_D_14 := Lib.hid H_D_14
  obtain ⟨k_R_14_0, k_R_14_1, k_R_14_2, k_R_14_3, f_R_14, l_R_14⟩ := bk4 H_R_14
  replace H_R_14 := Lib.hid H_R_14
  go_upto_region 11 with (first | (have _t := tok15; go_at_call 17; (with_reducible refine ((T15 _).out).mono ?_); rintro e w15 ⟨rfl, hb15⟩; clear tok15 _t; have hz15 := hb15.size; (try simp only [World.size_alloc, World.size_setCell, World.size_drew, World.size_drewN'] at hz15)))
  have H_F_15 := (hb15.block (w1.heap.size) (blk_lt' H_F_14.out)).trans H_F_14.out
  clear k_F_14_0 k_F_14_1 k_F_14_2 k_F_14_3 f_F_14 H_F_14
  obtain ⟨k_F_15_0, k_F_15_1, k_F_15_2, k_F_15_3, f_F_15, l_F_15⟩ := bk4 H_F_15
  replace H_F_15 := Lib.hid H_F_15
  have H_S_15 := (hb15.block (w3.heap.size) (blk_lt' H_S_14.out)).trans H_S_14.out
  clear k_S_14_0 k_S_14_1 k_S_14_2 k_S_14_3 f_S_14 H_S_14
  obtain ⟨k_S_15_0, k_S_15_1, k_S_15_2, k_S_15_3, f_S_15, l_S_15⟩ := bk4 H_S_15
  replace H_S_15 := Lib.hid H_S_15
  have H_Sz_15 := (hb15.block (w5.heap.size) (blk_lt' H_Sz_14.out)).trans H_Sz_14.out
  clear k_Sz_14_0 k_Sz_14_1 k_Sz_14_2 k_Sz_14_3 f_Sz_14 H_Sz_14
  obtain ⟨k_Sz_15_0, k_Sz_15_1, k_Sz_15_2, k_Sz_15_3, f_Sz_15, l_Sz_15⟩ := bk4 H_Sz_15
  replace H_Sz_15 := Lib.hid H_Sz_15
  have H_G_15 := (hb15.block (w7.heap.size) (blk_lt' H_G_14.out)).trans H_G_14.out
  clear k_G_14_0 k_G_14_1 k_G_14_2 k_G_14_3 f_G_14 H_G_14
  obtain ⟨k_G_15_0, k_G_15_1, k_G_15_2, k_G_15_3, f_G_15, l_G_15⟩ := bk4 H_G_15
  replace H_G_15 := Lib.hid H_G_15
  have H_C_15 := (hb15.block (w9.heap.size) (blk_lt' H_C_14.out)).trans H_C_14.out
  clear k_C_14_0 k_C_14_1 k_C_14_2 k_C_14_3 f_C_14 H_C_14
  obtain ⟨k_C_15_0, k_C_15_1, k_C_15_2, k_C_15_3, f_C_15, l_C_15⟩ := bk4 H_C_15
  replace H_C_15 := Lib.hid H_C_15
  have H_D_15 := (hb15.block (w11.heap.size) (blk_lt' H_D_14.out)).trans H_D_14.out
  clear k_D_14_0 k_D_14_1 k_D_14_2 k_D_14_3 f_D_14 H_D_14
  obtain ⟨k_D_15_0, k_D_15_1, k_D_15_2, k_D_15_3, f_D_15, l_D_15⟩ := bk4 H_D_15
  replace H_D_15 := Lib.hid H_D_15
  have H_R_15 := (hb15.block (w13.heap.size) (blk_lt' H_R_14.out)).trans H_R_14.out
  clear k_R_14_0 k_R_14_1 k_R_14_2 k_R_14_3 f_R_14 H_R_14
  obtain ⟨k_R_15_0, k_R_15_1, k_R_15_2, k_R_15_3, f_R_15, l_R_15⟩ := bk4 H_R_15
  replace H_R_15 := Lib.hid H_R_15
  have hB15 : Below w.heap.size w w15 := below_via hb15 (by assumption) (by first | exact hB14.size | go_size)
  clear hb15 T15
  replace H_F_15 := H_F_15.out
  replace H_S_15 := H_S_15.out
  replace H_Sz_15 := H_Sz_15.out
  replace H_G_15 := H_G_15.out
  replace H_C_15 := H_C_15.out
  replace H_D_15 := H_D_15.out
  replace H_R_15 := H_R_15.out
  refine chk (fun W => Below w.heap.size w W ∧ W.heap[w1.heap.size]? = some (.cells #[.int .i64 a, .int .i64 b, .int .i64 c, .int .i64 d] 42 (0, 0)) ∧ W.heap[w3.heap.size]? = some (.cells #[.int .i64 S1, .int .i64 S2, .int .i64 S3, .int .i64 S4] 42 (0, 0)) ∧ W.heap[w5.heap.size]? = some (.cells #[.int .i64 S1, .int .i64 S2, .int .i64 S3, .int .i64 S4] 42 (0, 0)) ∧ W.heap[w7.heap.size]? = some (.cells #[.int .i64 ga, .int .i64 gb, .int .i64 gc, .int .i64 gd] 42 (0, 0)) ∧ W.heap[w9.heap.size]? = some (.cells #[.int .i64 C1, .int .i64 C2, .int .i64 C3, .int .i64 C4] 42 (0, 0)) ∧ W.heap[w11.heap.size]? = some (.cells #[.int .i64 C1, .int .i64 C2, .int .i64 C3, .int .i64 C4] 42 (0, 0)) ∧ W.heap[w13.heap.size]? = some (.cells #[.int .i64 R1, .int .i64 R2, .int .i64 R3, .int .i64 R4] 42 (0, 0)) ∧ W.heap[w15.heap.size]? = some (.cells #[.int .i64 R1, .int .i64 R2, .int .i64 R3, .int .i64 R4] 42 (0, 0))) (by refine ⟨?_, ?_, ?_, ?_, ?_, ?_, ?_, ?_, ?_⟩ <;> (repeat' first | (with_reducible first | assumption | (apply Ne.symm; assumption) | apply Nat.le_refl | apply Nat.le_add_right | apply zL | apply zRf | apply Wx.box | apply Wx.box4 | apply zWa | apply Wx.drew | apply zWn | apply bx_drew | apply bx_drewN | apply bx_set3 | apply bx_set2 | apply bx_set4 | apply bx_set1) | ((with_reducible apply bx_new); (focus (go_size; done))) | (with_reducible first | apply zOl | apply zFa | apply zDn | apply zDr | apply zAl | apply zSt | refine zVi (by assumption) ?_ ?_) | go_size | omega)) ?_
  clear k_F_15_0 k_F_15_1 k_F_15_2 k_F_15_3 f_F_15 H_F_15
  clear k_S_15_0 k_S_15_1 k_S_15_2 k_S_15_3 f_S_15 H_S_15
  clear k_Sz_15_0 k_Sz_15_1 k_Sz_15_2 k_Sz_15_3 f_Sz_15 H_Sz_15
  clear k_G_15_0 k_G_15_1 k_G_15_2 k_G_15_3 f_G_15 H_G_15
  clear k_C_15_0 k_C_15_1 k_C_15_2 k_C_15_3 f_C_15 H_C_15
  clear k_D_15_0 k_D_15_1 k_D_15_2 k_D_15_3 f_D_15 H_D_15
  clear k_R_15_0 k_R_15_1 k_R_15_2 k_R_15_3 f_R_15 H_R_15
  clear hB15
  rintro w16 ⟨hB16, H_F_16, H_S_16, H_Sz_16, H_G_16, H_C_16, H_D_16, H_R_16, H_Rz_16⟩
  obtain ⟨k_F_16_0, k_F_16_1, k_F_16_2, k_F_16_3, f_F_16, l_F_16⟩ := bk4 H_F_16
  replace H_F_16 := Lib.hid H_F_16
  obtain ⟨k_S_16_0, k_S_16_1, k_S_16_2, k_S_16_3, f_S_16, l_S_16⟩ := bk4 H_S_16
  replace H_S_16 := Lib.hid H_S_16
  obtain ⟨k_Sz_16_0, k_Sz_16_1, k_Sz_16_2, k_Sz_16_3, f_Sz_16, l_Sz_16⟩ := bk4 H_Sz_16
  replace H_Sz_16 := Lib.hid H_Sz_16
  obtain ⟨k_G_16_0, k_G_16_1, k_G_16_2, k_G_16_3, f_G_16, l_G_16⟩ := bk4 H_G_16
  replace H_G_16 := Lib.hid H_G_16
  obtain ⟨k_C_16_0, k_C_16_1, k_C_16_2, k_C_16_3, f_C_16, l_C_16⟩ := bk4 H_C_16
  replace H_C_16 := Lib.hid H_C_16
  obtain ⟨k_D_16_0, k_D_16_1, k_D_16_2, k_D_16_3, f_D_16, l_D_16⟩ := bk4 H_D_16
  replace H_D_16 := Lib.hid H_D_16
  obtain ⟨k_R_16_0, k_R_16_1, k_R_16_2, k_R_16_3, f_R_16, l_R_16⟩ := bk4 H_R_16
  replace H_R_16 := Lib.hid H_R_16
  obtain ⟨k_Rz_16_0, k_Rz_16_1, k_Rz_16_2, k_Rz_16_3, f_Rz_16, l_Rz_16⟩ := bk4 H_Rz_16
  replace H_Rz_16 := Lib.hid H_Rz_16
  go_upto_region 12 with (first | (have _t := tok17; go_at_call 18; (with_reducible refine ((T17 _ (by repeat' first | (with_reducible first | apply zRf | assumption | apply zDn | apply zDr | apply zAl | apply zSt | refine zVi (by assumption) ?_ ?_) | go_size))).mono ?_); rintro e w17 ⟨rfl, hb17⟩; clear tok17 _t; have hz17 := hb17.size; (try simp only [World.size_alloc, World.size_setCell, World.size_drew, World.size_drewN'] at hz17)))
  have H_F_17 := (hb17.block (w1.heap.size) (blk_lt' H_F_16.out)).trans H_F_16.out
  clear k_F_16_0 k_F_16_1 k_F_16_2 k_F_16_3 f_F_16 H_F_16
  obtain ⟨k_F_17_0, k_F_17_1, k_F_17_2, k_F_17_3, f_F_17, l_F_17⟩ := bk4 H_F_17
  replace H_F_17 := Lib.hid H_F_17
  have H_S_17 := (hb17.block (w3.heap.size) (blk_lt' H_S_16.out)).trans H_S_16.out
  clear k_S_16_0 k_S_16_1 k_S_16_2 k_S_16_3 f_S_16 H_S_16
  obtain ⟨k_S_17_0, k_S_17_1, k_S_17_2, k_S_17_3, f_S_17, l_S_17⟩ := bk4 H_S_17
  replace H_S_17 := Lib.hid H_S_17
  have H_Sz_17 := (hb17.block (w5.heap.size) (blk_lt' H_Sz_16.out)).trans H_Sz_16.out
  clear k_Sz_16_0 k_Sz_16_1 k_Sz_16_2 k_Sz_16_3 f_Sz_16 H_Sz_16
  obtain ⟨k_Sz_17_0, k_Sz_17_1, k_Sz_17_2, k_Sz_17_3, f_Sz_17, l_Sz_17⟩ := bk4 H_Sz_17
  replace H_Sz_17 := Lib.hid H_Sz_17
  have H_G_17 := (hb17.block (w7.heap.size) (blk_lt' H_G_16.out)).trans H_G_16.out
  clear k_G_16_0 k_G_16_1 k_G_16_2 k_G_16_3 f_G_16 H_G_16
  obtain ⟨k_G_17_0, k_G_17_1, k_G_17_2, k_G_17_3, f_G_17, l_G_17⟩ := bk4 H_G_17
  replace H_G_17 := Lib.hid H_G_17
  have H_C_17 := (hb17.block (w9.heap.size) (blk_lt' H_C_16.out)).trans H_C_16.out
  clear k_C_16_0 k_C_16_1 k_C_16_2 k_C_16_3 f_C_16 H_C_16
  obtain ⟨k_C_17_0, k_C_17_1, k_C_17_2, k_C_17_3, f_C_17, l_C_17⟩ := bk4 H_C_17
  replace H_C_17 := Lib.hid H_C_17
  have H_D_17 := (hb17.block (w11.heap.size) (blk_lt' H_D_16.out)).trans H_D_16.out
  clear k_D_16_0 k_D_16_1 k_D_16_2 k_D_16_3 f_D_16 H_D_16
  obtain ⟨k_D_17_0, k_D_17_1, k_D_17_2, k_D_17_3, f_D_17, l_D_17⟩ := bk4 H_D_17
  replace H_D_17 := Lib.hid H_D_17
  have H_R_17 := (hb17.block (w13.heap.size) (blk_lt' H_R_16.out)).trans H_R_16.out
  clear k_R_16_0 k_R_16_1 k_R_16_2 k_R_16_3 f_R_16 H_R_16
  obtain ⟨k_R_17_0, k_R_17_1, k_R_17_2, k_R_17_3, f_R_17, l_R_17⟩ := bk4 H_R_17
  replace H_R_17 := Lib.hid H_R_17
  have H_Rz_17 := (hb17.block (w15.heap.size) (blk_lt' H_Rz_16.out)).trans H_Rz_16.out
  clear k_Rz_16_0 k_Rz_16_1 k_Rz_16_2 k_Rz_16_3 f_Rz_16 H_Rz_16
  obtain ⟨k_Rz_17_0, k_Rz_17_1, k_Rz_17_2, k_Rz_17_3, f_Rz_17, l_Rz_17⟩ := bk4 H_Rz_17
  replace H_Rz_17 := Lib.hid H_Rz_17
  have hB17 : Below w.heap.size w w17 := below_via hb17 (by assumption) (by first | exact hB16.size | go_size)
  clear hb17 T17
  replace H_F_17 := H_F_17.out
  replace H_S_17 := H_S_17.out
  replace H_Sz_17 := H_Sz_17.out
  replace H_G_17 := H_G_17.out
  replace H_C_17 := H_C_17.out
  replace H_D_17 := H_D_17.out
  replace H_R_17 := H_R_17.out
  replace H_Rz_17 := H_Rz_17.out
  refine chk (fun W => Below w.heap.size w W ∧ W.heap[w1.heap.size]? = some (.cells #[.int .i64 a, .int .i64 b, .int .i64 c, .int .i64 d] 42 (0, 0)) ∧ W.heap[w3.heap.size]? = some (.cells #[.int .i64 S1, .int .i64 S2, .int .i64 S3, .int .i64 S4] 42 (0, 0)) ∧ W.heap[w5.heap.size]? = some (.cells #[.int .i64 S1, .int .i64 S2, .int .i64 S3, .int .i64 S4] 42 (0, 0)) ∧ W.heap[w7.heap.size]? = some (.cells #[.int .i64 ga, .int .i64 gb, .int .i64 gc, .int .i64 gd] 42 (0, 0)) ∧ W.heap[w9.heap.size]? = some (.cells #[.int .i64 C1, .int .i64 C2, .int .i64 C3, .int .i64 C4] 42 (0, 0)) ∧ W.heap[w11.heap.size]? = some (.cells #[.int .i64 C1, .int .i64 C2, .int .i64 C3, .int .i64 C4] 42 (0, 0)) ∧ W.heap[w13.heap.size]? = some (.cells #[.int .i64 R1, .int .i64 R2, .int .i64 R3, .int .i64 R4] 42 (0, 0)) ∧ W.heap[w15.heap.size]? = some (.cells #[.int .i64 R1, .int .i64 R2, .int .i64 R3, .int .i64 R4] 42 (0, 0))) (by refine ⟨?_, ?_, ?_, ?_, ?_, ?_, ?_, ?_, ?_⟩ <;> (repeat' first | (with_reducible first | assumption | (apply Ne.symm; assumption) | apply Nat.le_refl | apply Nat.le_add_right | apply zL | apply zRf | apply Wx.box | apply Wx.box4 | apply zWa | apply Wx.drew | apply zWn | apply bx_drew | apply bx_drewN | apply bx_set3 | apply bx_set2 | apply bx_set4 | apply bx_set1) | ((with_reducible apply bx_new); (focus (go_size; done))) | (with_reducible first | apply zOl | apply zFa | apply zDn | apply zDr | apply zAl | apply zSt | refine zVi (by assumption) ?_ ?_) | go_size | omega)) ?_
  clear k_F_17_0 k_F_17_1 k_F_17_2 k_F_17_3 f_F_17 H_F_17
  clear k_S_17_0 k_S_17_1 k_S_17_2 k_S_17_3 f_S_17 H_S_17
  clear k_Sz_17_0 k_Sz_17_1 k_Sz_17_2 k_Sz_17_3 f_Sz_17 H_Sz_17
  clear k_G_17_0 k_G_17_1 k_G_17_2 k_G_17_3 f_G_17 H_G_17
  clear k_C_17_0 k_C_17_1 k_C_17_2 k_C_17_3 f_C_17 H_C_17
  clear k_D_17_0 k_D_17_1 k_D_17_2 k_D_17_3 f_D_17 H_D_17
  clear k_R_17_0 k_R_17_1 k_R_17_2 k_R_17_3 f_R_17 H_R_17
  clear k_Rz_17_0 k_Rz_17_1 k_Rz_17_2 k_Rz_17_3 f_Rz_17 H_Rz_17
  clear hB17
  rintro w18 ⟨hB18, H_F_18, H_S_18, H_Sz_18, H_G_18, H_C_18, H_D_18, H_R_18, H_Rz_18⟩
  obtain ⟨k_F_18_0, k_F_18_1, k_F_18_2, k_F_18_3, f_F_18, l_F_18⟩ := bk4 H_F_18
  replace H_F_18 := Lib.hid H_F_18
  obtain ⟨k_S_18_0, k_S_18_1, k_S_18_2, k_S_18_3, f_S_18, l_S_18⟩ := bk4 H_S_18
  replace H_S_18 := Lib.hid H_S_18
  obtain ⟨k_Sz_18_0, k_Sz_18_1, k_Sz_18_2, k_Sz_18_3, f_Sz_18, l_Sz_18⟩ := bk4 H_Sz_18
  replace H_Sz_18 := Lib.hid H_Sz_18
  obtain ⟨k_G_18_0, k_G_18_1, k_G_18_2, k_G_18_3, f_G_18, l_G_18⟩ := bk4 H_G_18
  replace H_G_18 := Lib.hid H_G_18
  obtain ⟨k_C_18_0, k_C_18_1, k_C_18_2, k_C_18_3, f_C_18, l_C_18⟩ := bk4 H_C_18
  replace H_C_18 := Lib.hid H_C_18
  obtain ⟨k_D_18_0, k_D_18_1, k_D_18_2, k_D_18_3, f_D_18, l_D_18⟩ := bk4 H_D_18
  replace H_D_18 := Lib.hid H_D_18
  obtain ⟨k_R_18_0, k_R_18_1, k_R_18_2, k_R_18_3, f_R_18, l_R_18⟩ := bk4 H_R_18
  replace H_R_18 := Lib.hid H_R_18
  obtain ⟨k_Rz_18_0, k_Rz_18_1, k_Rz_18_2, k_Rz_18_3, f_Rz_18, l_Rz_18⟩ := bk4 H_Rz_18
  replace H_Rz_18 := Lib.hid H_Rz_18
  go_upto_region 13 with (first | (have _t := tok19; go_at_call 19; (with_reducible refine ((T19 _).out).mono ?_); rintro e w19 ⟨rfl, hb19⟩; clear tok19 _t; have hz19 := hb19.size; (try simp only [World.size_alloc, World.size_setCell, World.size_drew, World.size_drewN'] at hz19)))
  have H_F_19 := (hb19.block (w1.heap.size) (blk_lt' H_F_18.out)).trans H_F_18.out
  clear k_F_18_0 k_F_18_1 k_F_18_2 k_F_18_3 f_F_18 H_F_18
  obtain ⟨k_F_19_0, k_F_19_1, k_F_19_2, k_F_19_3, f_F_19, l_F_19⟩ := bk4 H_F_19
  replace H_F_19 := Lib.hid H_F_19
  have H_S_19 := (hb19.block (w3.heap.size) (blk_lt' H_S_18.out)).trans H_S_18.out
  clear k_S_18_0 k_S_18_1 k_S_18_2 k_S_18_3 f_S_18 H_S_18
  obtain ⟨k_S_19_0, k_S_19_1, k_S_19_2, k_S_19_3, f_S_19, l_S_19⟩ := bk4 H_S_19
  replace H_S_19 := Lib.hid H_S_19
  have H_Sz_19 := (hb19.block (w5.heap.size) (blk_lt' H_Sz_18.out)).trans H_Sz_18.out
  clear k_Sz_18_0 k_Sz_18_1 k_Sz_18_2 k_Sz_18_3 f_Sz_18 H_Sz_18
  obtain ⟨k_Sz_19_0, k_Sz_19_1, k_Sz_19_2, k_Sz_19_3, f_Sz_19, l_Sz_19⟩ := bk4 H_Sz_19
  replace H_Sz_19 := Lib.hid H_Sz_19
  have H_G_19 := (hb19.block (w7.heap.size) (blk_lt' H_G_18.out)).trans H_G_18.out
  clear k_G_18_0 k_G_18_1 k_G_18_2 k_G_18_3 f_G_18 H_G_18
  obtain ⟨k_G_19_0, k_G_19_1, k_G_19_2, k_G_19_3, f_G_19, l_G_19⟩ := bk4 H_G_19
  replace H_G_19 := Lib.hid H_G_19
  have H_C_19 := (hb19.block (w9.heap.size) (blk_lt' H_C_18.out)).trans H_C_18.out
  clear k_C_18_0 k_C_18_1 k_C_18_2 k_C_18_3 f_C_18 H_C_18
  obtain ⟨k_C_19_0, k_C_19_1, k_C_19_2, k_C_19_3, f_C_19, l_C_19⟩ := bk4 H_C_19
  replace H_C_19 := Lib.hid H_C_19
  have H_D_19 := (hb19.block (w11.heap.size) (blk_lt' H_D_18.out)).trans H_D_18.out
  clear k_D_18_0 k_D_18_1 k_D_18_2 k_D_18_3 f_D_18 H_D_18
  obtain ⟨k_D_19_0, k_D_19_1, k_D_19_2, k_D_19_3, f_D_19, l_D_19⟩ := bk4 H_D_19
  replace H_D_19 := Lib.hid H_D_19
  have H_R_19 := (hb19.block (w13.heap.size) (blk_lt' H_R_18.out)).trans H_R_18.out
  clear k_R_18_0 k_R_18_1 k_R_18_2 k_R_18_3 f_R_18 H_R_18
  obtain ⟨k_R_19_0, k_R_19_1, k_R_19_2, k_R_19_3, f_R_19, l_R_19⟩ := bk4 H_R_19
  replace H_R_19 := Lib.hid H_R_19
  have H_Rz_19 := (hb19.block (w15.heap.size) (blk_lt' H_Rz_18.out)).trans H_Rz_18.out
  clear k_Rz_18_0 k_Rz_18_1 k_Rz_18_2 k_Rz_18_3 f_Rz_18 H_Rz_18
  obtain ⟨k_Rz_19_0, k_Rz_19_1, k_Rz_19_2, k_Rz_19_3, f_Rz_19, l_Rz_19⟩ := bk4 H_Rz_19
  replace H_Rz_19 := Lib.hid H_Rz_19
  have hB19 : Below w.heap.size w w19 := below_via hb19 (by assumption) (by first | exact hB18.size | go_size)
  clear hb19 T19
  replace H_F_19 := H_F_19.out
  replace H_S_19 := H_S_19.out
  replace H_Sz_19 := H_Sz_19.out
  replace H_G_19 := H_G_19.out
  replace H_C_19 := H_C_19.out
  replace H_D_19 := H_D_19.out
  replace H_R_19 := H_R_19.out
  replace H_Rz_19 := H_Rz_19.out
  refine chk (fun W => Below w.heap.size w W ∧ W.heap[w1.heap.size]? = some (.cells #[.int .i64 a, .int .i64 b, .int .i64 c, .int .i64 d] 42 (0, 0)) ∧ W.heap[w3.heap.size]? = some (.cells #[.int .i64 S1, .int .i64 S2, .int .i64 S3, .int .i64 S4] 42 (0, 0)) ∧ W.heap[w5.heap.size]? = some (.cells #[.int .i64 S1, .int .i64 S2, .int .i64 S3, .int .i64 S4] 42 (0, 0)) ∧ W.heap[w7.heap.size]? = some (.cells #[.int .i64 ga, .int .i64 gb, .int .i64 gc, .int .i64 gd] 42 (0, 0)) ∧ W.heap[w9.heap.size]? = some (.cells #[.int .i64 C1, .int .i64 C2, .int .i64 C3, .int .i64 C4] 42 (0, 0)) ∧ W.heap[w11.heap.size]? = some (.cells #[.int .i64 C1, .int .i64 C2, .int .i64 C3, .int .i64 C4] 42 (0, 0)) ∧ W.heap[w13.heap.size]? = some (.cells #[.int .i64 R1, .int .i64 R2, .int .i64 R3, .int .i64 R4] 42 (0, 0)) ∧ W.heap[w15.heap.size]? = some (.cells #[.int .i64 R1, .int .i64 R2, .int .i64 R3, .int .i64 R4] 42 (0, 0))) (by refine ⟨?_, ?_, ?_, ?_, ?_, ?_, ?_, ?_, ?_⟩ <;> (repeat' first | (with_reducible first | assumption | (apply Ne.symm; assumption) | apply Nat.le_refl | apply Nat.le_add_right | apply zL | apply zRf | apply Wx.box | apply Wx.box4 | apply zWa | apply Wx.drew | apply zWn | apply bx_drew | apply bx_drewN | apply bx_set3 | apply bx_set2 | apply bx_set4 | apply bx_set1) | ((with_reducible apply bx_new); (focus (go_size; done))) | (with_reducible first | apply zOl | apply zFa | apply zDn | apply zDr | apply zAl | apply zSt | refine zVi (by assumption) ?_ ?_) | go_size | omega)) ?_
  clear k_F_19_0 k_F_19_1 k_F_19_2 k_F_19_3 f_F_19 H_F_19
  clear k_S_19_0 k_S_19_1 k_S_19_2 k_S_19_3 f_S_19 H_S_19
  clear k_Sz_19_0 k_Sz_19_1 k_Sz_19_2 k_Sz_19_3 f_Sz_19 H_Sz_19
  clear k_G_19_0 k_G_19_1 k_G_19_2 k_G_19_3 f_G_19 H_G_19
  clear k_C_19_0 k_C_19_1 k_C_19_2 k_C_19_3 f_C_19 H_C_19
  clear k_D_19_0 k_D_19_1 k_D_19_2 k_D_19_3 f_D_19 H_D_19
  clear k_R_19_0 k_R_19_1 k_R_19_2 k_R_19_3 f_R_19 H_R_19
  clear k_Rz_19_0 k_Rz_19_1 k_Rz_19_2 k_Rz_19_3 f_Rz_19 H_Rz_19
  clear hB19
  rintro w20 ⟨hB20, H_F_20, H_S_20, H_Sz_20, H_G_20, H_C_20, H_D_20, H_R_20, H_Rz_20⟩
  obtain ⟨k_F_20_0, k_F_20_1, k_F_20_2, k_F_20_3, f_F_20, l_F_20⟩ := bk4 H_F_20
  replace H_F_20 := Lib.hid H_F_20
  obtain ⟨k_S_20_0, k_S_20_1, k_S_20_2, k_S_20_3, f_S_20, l_S_20⟩ := bk4 H_S_20
  replace H_S_20 := Lib.hid H_S_20
  obtain ⟨k_Sz_20_0, k_Sz_20_1, k_Sz_20_2, k_Sz_20_3, f_Sz_20, l_Sz_20⟩ := bk4 H_Sz_20
  replace H_Sz_20 := Lib.hid H_Sz_20
  obtain ⟨k_G_20_0, k_G_20_1, k_G_20_2, k_G_20_3, f_G_20, l_G_20⟩ := bk4 H_G_20
  replace H_G_20 := Lib.hid H_G_20
  obtain ⟨k_C_20_0, k_C_20_1, k_C_20_2, k_C_20_3, f_C_20, l_C_20⟩ := bk4 H_C_20
  replace H_C_20 := Lib.hid H_C_20
  obtain ⟨k_D_20_0, k_D_20_1, k_D_20_2, k_D_20_3, f_D_20, l_D_20⟩ := bk4 H_D_20
  replace H_D_20 := Lib.hid H_D_20
  obtain ⟨k_R_20_0, k_R_20_1, k_R_20_2, k_R_20_3, f_R_20, l_R_20⟩ := bk4 H_R_20
  replace H_R_20 := Lib.hid H_R_20
  obtain ⟨k_Rz_20_0, k_Rz_20_1, k_Rz_20_2, k_Rz_20_3, f_Rz_20, l_Rz_20⟩ := bk4 H_Rz_20
  replace H_Rz_20 := Lib.hid H_Rz_20
  go_upto_region 14 with (first | (have _t := tok21; go_at_call 20; refine (DrawCubicAtFraction_any (h2.below (by repeat' first | (with_reducible first | apply zRf | assumption | apply zDn | apply zDr | apply zAl | apply zSt | refine zVi (by assumption) ?_ ?_) | go_size))).mono ?_; rintro e w21 ⟨ha, hb, hc, hd, m, e, rfl, hb21⟩; clear tok21 _t; have hz21 := hb21.size; (try simp only [World.size_alloc, World.size_setCell, World.size_drew, World.size_drewN'] at hz21)))
  have H_F_21 := (hb21.block (w1.heap.size) (blk_lt' H_F_20.out)).trans H_F_20.out
  clear k_F_20_0 k_F_20_1 k_F_20_2 k_F_20_3 f_F_20 H_F_20
  obtain ⟨k_F_21_0, k_F_21_1, k_F_21_2, k_F_21_3, f_F_21, l_F_21⟩ := bk4 H_F_21
  replace H_F_21 := Lib.hid H_F_21
  have H_S_21 := (hb21.block (w3.heap.size) (blk_lt' H_S_20.out)).trans H_S_20.out
  clear k_S_20_0 k_S_20_1 k_S_20_2 k_S_20_3 f_S_20 H_S_20
  obtain ⟨k_S_21_0, k_S_21_1, k_S_21_2, k_S_21_3, f_S_21, l_S_21⟩ := bk4 H_S_21
  replace H_S_21 := Lib.hid H_S_21
  have H_Sz_21 := (hb21.block (w5.heap.size) (blk_lt' H_Sz_20.out)).trans H_Sz_20.out
  clear k_Sz_20_0 k_Sz_20_1 k_Sz_20_2 k_Sz_20_3 f_Sz_20 H_Sz_20
  obtain ⟨k_Sz_21_0, k_Sz_21_1, k_Sz_21_2, k_Sz_21_3, f_Sz_21, l_Sz_21⟩ := bk4 H_Sz_21
  replace H_Sz_21 := Lib.hid H_Sz_21
  have H_G_21 := (hb21.block (w7.heap.size) (blk_lt' H_G_20.out)).trans H_G_20.out
  clear k_G_20_0 k_G_20_1 k_G_20_2 k_G_20_3 f_G_20 H_G_20
  obtain ⟨k_G_21_0, k_G_21_1, k_G_21_2, k_G_21_3, f_G_21, l_G_21⟩ := bk4 H_G_21
  replace H_G_21 := Lib.hid H_G_21
  have H_C_21 := (hb21.block (w9.heap.size) (blk_lt' H_C_20.out)).trans H_C_20.out
  clear k_C_20_0 k_C_20_1 k_C_20_2 k_C_20_3 f_C_20 H_C_20
  obtain ⟨k_C_21_0, k_C_21_1, k_C_21_2, k_C_21_3, f_C_21, l_C_21⟩ := bk4 H_C_21
  replace H_C_21 := Lib.hid H_C_21
  have H_D_21 := (hb21.block (w11.heap.size) (blk_lt' H_D_20.out)).trans H_D_20.out
  clear k_D_20_0 k_D_20_1 k_D_20_2 k_D_20_3 f_D_20 H_D_20
  obtain ⟨k_D_21_0, k_D_21_1, k_D_21_2, k_D_21_3, f_D_21, l_D_21⟩ := bk4 H_D_21
  replace H_D_21 := Lib.hid H_D_21
  have H_R_21 := (hb21.block (w13.heap.size) (blk_lt' H_R_20.out)).trans H_R_20.out
  clear k_R_20_0 k_R_20_1 k_R_20_2 k_R_20_3 f_R_20 H_R_20
  obtain ⟨k_R_21_0, k_R_21_1, k_R_21_2, k_R_21_3, f_R_21, l_R_21⟩ := bk4 H_R_21
  replace H_R_21 := Lib.hid H_R_21
  have H_Rz_21 := (hb21.block (w15.heap.size) (blk_lt' H_Rz_20.out)).trans H_Rz_20.out
  clear k_Rz_20_0 k_Rz_20_1 k_Rz_20_2 k_Rz_20_3 f_Rz_20 H_Rz_20
  obtain ⟨k_Rz_21_0, k_Rz_21_1, k_Rz_21_2, k_Rz_21_3, f_Rz_21, l_Rz_21⟩ := bk4 H_Rz_21
  replace H_Rz_21 := Lib.hid H_Rz_21
  have hB21 : Below w.heap.size w w21 := below_via hb21 (by assumption) (by first | exact hB20.size | go_size)
  clear hb21
  obtain ⟨A, o7, R23, R25, Fa⟩ := cu_set3 ha hb hc hd m e
  have T23 := fun W : World => Lib.hid (R23 W)
  have T25 := fun W : World => Lib.hid (R25 W)
  clear R23 R25
  replace Fa := Lib.hid Fa
  replace H_F_21 := H_F_21.out
  replace H_S_21 := H_S_21.out
  replace H_Sz_21 := H_Sz_21.out
  replace H_G_21 := H_G_21.out
  replace H_C_21 := H_C_21.out
  replace H_D_21 := H_D_21.out
  replace H_R_21 := H_R_21.out
  replace H_Rz_21 := H_Rz_21.out
  refine chk (fun W => Below w.heap.size w W ∧ W.heap[w1.heap.size]? = some (.cells #[.int .i64 a, .int .i64 b, .int .i64 c, .int .i64 d] 42 (0, 0)) ∧ W.heap[w3.heap.size]? = some (.cells #[.int .i64 S1, .int .i64 S2, .int .i64 S3, .int .i64 S4] 42 (0, 0)) ∧ W.heap[w5.heap.size]? = some (.cells #[.int .i64 S1, .int .i64 S2, .int .i64 S3, .int .i64 S4] 42 (0, 0)) ∧ W.heap[w7.heap.size]? = some (.cells #[.int .i64 ga, .int .i64 gb, .int .i64 gc, .int .i64 gd] 42 (0, 0)) ∧ W.heap[w9.heap.size]? = some (.cells #[.int .i64 C1, .int .i64 C2, .int .i64 C3, .int .i64 C4] 42 (0, 0)) ∧ W.heap[w11.heap.size]? = some (.cells #[.int .i64 C1, .int .i64 C2, .int .i64 C3, .int .i64 C4] 42 (0, 0)) ∧ W.heap[w13.heap.size]? = some (.cells #[.int .i64 R1, .int .i64 R2, .int .i64 R3, .int .i64 R4] 42 (0, 0)) ∧ W.heap[w15.heap.size]? = some (.cells #[.int .i64 R1, .int .i64 R2, .int .i64 R3, .int .i64 R4] 42 (0, 0)) ∧ W.heap[w21.heap.size]? = some (.cells #[.int .i64 ha, .int .i64 hb, .int .i64 hc, .int .i64 hd] 42 (0, 0)) ∧ W.heap[w21.heap.size + 1]? = some (.cells #[.int .i64 m, .int .i64 e] 34 (0, 0))) (by refine ⟨?_, ?_, ?_, ?_, ?_, ?_, ?_, ?_, ?_, ?_, ?_⟩ <;> (repeat' first | (with_reducible first | assumption | (apply Ne.symm; assumption) | apply Nat.le_refl | apply Nat.le_add_right | apply zL | apply zRf | apply Wx.box | apply Wx.box4 | apply zWa | apply Wx.drew | apply zWn | apply bx_drew | apply bx_drewN | apply bx_set3 | apply bx_set2 | apply bx_set4 | apply bx_set1) | ((with_reducible apply bx_new); (focus (go_size; done))) | (with_reducible first | apply zOl | apply zFa | apply zDn | apply zDr | apply zAl | apply zSt | refine zVi (by assumption) ?_ ?_) | go_size | omega)) ?_
  clear k_F_21_0 k_F_21_1 k_F_21_2 k_F_21_3 f_F_21 H_F_21
  clear k_S_21_0 k_S_21_1 k_S_21_2 k_S_21_3 f_S_21 H_S_21
  clear k_Sz_21_0 k_Sz_21_1 k_Sz_21_2 k_Sz_21_3 f_Sz_21 H_Sz_21
  clear k_G_21_0 k_G_21_1 k_G_21_2 k_G_21_3 f_G_21 H_G_21
  clear k_C_21_0 k_C_21_1 k_C_21_2 k_C_21_3 f_C_21 H_C_21
  clear k_D_21_0 k_D_21_1 k_D_21_2 k_D_21_3 f_D_21 H_D_21
  clear k_R_21_0 k_R_21_1 k_R_21_2 k_R_21_3 f_R_21 H_R_21
  clear k_Rz_21_0 k_Rz_21_1 k_Rz_21_2 k_Rz_21_3 f_Rz_21 H_Rz_21
  clear hB21
  rintro w22 ⟨hB22, H_F_22, H_S_22, H_Sz_22, H_G_22, H_C_22, H_D_22, H_R_22, H_Rz_22, H_H_22, H_X_22⟩
  obtain ⟨k_F_22_0, k_F_22_1, k_F_22_2, k_F_22_3, f_F_22, l_F_22⟩ := bk4 H_F_22
  replace H_F_22 := Lib.hid H_F_22
  obtain ⟨k_S_22_0, k_S_22_1, k_S_22_2, k_S_22_3, f_S_22, l_S_22⟩ := bk4 H_S_22
  replace H_S_22 := Lib.hid H_S_22
  obtain ⟨k_Sz_22_0, k_Sz_22_1, k_Sz_22_2, k_Sz_22_3, f_Sz_22, l_Sz_22⟩ := bk4 H_Sz_22
  replace H_Sz_22 := Lib.hid H_Sz_22
  obtain ⟨k_G_22_0, k_G_22_1, k_G_22_2, k_G_22_3, f_G_22, l_G_22⟩ := bk4 H_G_22
  replace H_G_22 := Lib.hid H_G_22
  obtain ⟨k_C_22_0, k_C_22_1, k_C_22_2, k_C_22_3, f_C_22, l_C_22⟩ := bk4 H_C_22
  replace H_C_22 := Lib.hid H_C_22
  obtain ⟨k_D_22_0, k_D_22_1, k_D_22_2, k_D_22_3, f_D_22, l_D_22⟩ := bk4 H_D_22
  replace H_D_22 := Lib.hid H_D_22
  obtain ⟨k_R_22_0, k_R_22_1, k_R_22_2, k_R_22_3, f_R_22, l_R_22⟩ := bk4 H_R_22
  replace H_R_22 := Lib.hid H_R_22
  obtain ⟨k_Rz_22_0, k_Rz_22_1, k_Rz_22_2, k_Rz_22_3, f_Rz_22, l_Rz_22⟩ := bk4 H_Rz_22
  replace H_Rz_22 := Lib.hid H_Rz_22
  obtain ⟨k_H_22_0, k_H_22_1, k_H_22_2, k_H_22_3, f_H_22, l_H_22⟩ := bk4 H_H_22
  replace H_H_22 := Lib.hid H_H_22
  obtain ⟨k_X_22_0, k_X_22_1, f_X_22, l_X_22⟩ := bk2 H_X_22
  replace H_X_22 := Lib.hid H_X_22
  go_upto_region 15 with (first | (have _t := tok23; go_at_call 21; (with_reducible refine ((T23 _).out).mono ?_); rintro e w23 ⟨rfl, hb23⟩; clear tok23 _t; have hz23 := hb23.size; (try simp only [World.size_alloc, World.size_setCell, World.size_drew, World.size_drewN'] at hz23)))
  have H_F_23 := (hb23.block (w1.heap.size) (blk_lt' H_F_22.out)).trans H_F_22.out
  clear k_F_22_0 k_F_22_1 k_F_22_2 k_F_22_3 f_F_22 H_F_22
  obtain ⟨k_F_23_0, k_F_23_1, k_F_23_2, k_F_23_3, f_F_23, l_F_23⟩ := bk4 H_F_23
  replace H_F_23 := Lib.hid H_F_23
  have H_S_23 := (hb23.block (w3.heap.size) (blk_lt' H_S_22.out)).trans H_S_22.out
  clear k_S_22_0 k_S_22_1 k_S_22_2 k_S_22_3 f_S_22 H_S_22
  obtain ⟨k_S_23_0, k_S_23_1, k_S_23_2, k_S_23_3, f_S_23, l_S_23⟩ := bk4 H_S_23
  replace H_S_23 := Lib.hid H_S_23
  have H_Sz_23 := (hb23.block (w5.heap.size) (blk_lt' H_Sz_22.out)).trans H_Sz_22.out
  clear k_Sz_22_0 k_Sz_22_1 k_Sz_22_2 k_Sz_22_3 f_Sz_22 H_Sz_22
  obtain ⟨k_Sz_23_0, k_Sz_23_1, k_Sz_23_2, k_Sz_23_3, f_Sz_23, l_Sz_23⟩ := bk4 H_Sz_23
  replace H_Sz_23 := Lib.hid H_Sz_23
  have H_G_23 := (hb23.block (w7.heap.size) (blk_lt' H_G_22.out)).trans H_G_22.out
  clear k_G_22_0 k_G_22_1 k_G_22_2 k_G_22_3 f_G_22 H_G_22
  obtain ⟨k_G_23_0, k_G_23_1, k_G_23_2, k_G_23_3, f_G_23, l_G_23⟩ := bk4 H_G_23
  replace H_G_23 := Lib.hid H_G_23
  have H_C_23 := (hb23.block (w9.heap.size) (blk_lt' H_C_22.out)).trans H_C_22.out
  clear k_C_22_0 k_C_22_1 k_C_22_2 k_C_22_3 f_C_22 H_C_22
  obtain ⟨k_C_23_0, k_C_23_1, k_C_23_2, k_C_23_3, f_C_23, l_C_23⟩ := bk4 H_C_23
  replace H_C_23 := Lib.hid H_C_23
  have H_D_23 := (hb23.block (w11.heap.size) (blk_lt' H_D_22.out)).trans H_D_22.out
  clear k_D_22_0 k_D_22_1 k_D_22_2 k_D_22_3 f_D_22 H_D_22
  obtain ⟨k_D_23_0, k_D_23_1, k_D_23_2, k_D_23_3, f_D_23, l_D_23⟩ := bk4 H_D_23
  replace H_D_23 := Lib.hid H_D_23
  have H_R_23 := (hb23.block (w13.heap.size) (blk_lt' H_R_22.out)).trans H_R_22.out
  clear k_R_22_0 k_R_22_1 k_R_22_2 k_R_22_3 f_R_22 H_R_22
  obtain ⟨k_R_23_0, k_R_23_1, k_R_23_2, k_R_23_3, f_R_23, l_R_23⟩ := bk4 H_R_23
  replace H_R_23 := Lib.hid H_R_23
  have H_Rz_23 := (hb23.block (w15.heap.size) (blk_lt' H_Rz_22.out)).trans H_Rz_22.out
  clear k_Rz_22_0 k_Rz_22_1 k_Rz_22_2 k_Rz_22_3 f_Rz_22 H_Rz_22
  obtain ⟨k_Rz_23_0, k_Rz_23_1, k_Rz_23_2, k_Rz_23_3, f_Rz_23, l_Rz_23⟩ := bk4 H_Rz_23
  replace H_Rz_23 := Lib.hid H_Rz_23
  have H_H_23 := (hb23.block (w21.heap.size) (blk_lt' H_H_22.out)).trans H_H_22.out
  clear k_H_22_0 k_H_22_1 k_H_22_2 k_H_22_3 f_H_22 H_H_22
  obtain ⟨k_H_23_0, k_H_23_1, k_H_23_2, k_H_23_3, f_H_23, l_H_23⟩ := bk4 H_H_23
  replace H_H_23 := Lib.hid H_H_23
  have H_X_23 := (hb23.block (w21.heap.size + 1) (blk_lt' H_X_22.out)).trans H_X_22.out
  clear k_X_22_0 k_X_22_1 f_X_22 H_X_22
  obtain ⟨k_X_23_0, k_X_23_1, f_X_23, l_X_23⟩ := bk2 H_X_23
  replace H_X_23 := Lib.hid H_X_23
  have hB23 : Below w.heap.size w w23 := below_via hb23 (by assumption) (by first | exact hB22.size | go_size)
  clear hb23 T23
  replace H_F_23 := H_F_23.out
  replace H_S_23 := H_S_23.out
  replace H_Sz_23 := H_Sz_23.out
  replace H_G_23 := H_G_23.out
  replace H_C_23 := H_C_23.out
  replace H_D_23 := H_D_23.out
  replace H_R_23 := H_R_23.out
  replace H_Rz_23 := H_Rz_23.out
  replace H_H_23 := H_H_23.out
  replace H_X_23 := H_X_23.out
  refine chk (fun W => Below w.heap.size w W ∧ W.heap[w1.heap.size]? = some (.cells #[.int .i64 a, .int .i64 b, .int .i64 c, .int .i64 d] 42 (0, 0)) ∧ W.heap[w3.heap.size]? = some (.cells #[.int .i64 S1, .int .i64 S2, .int .i64 S3, .int .i64 S4] 42 (0, 0)) ∧ W.heap[w5.heap.size]? = some (.cells #[.int .i64 S1, .int .i64 S2, .int .i64 S3, .int .i64 S4] 42 (0, 0)) ∧ W.heap[w7.heap.size]? = some (.cells #[.int .i64 ga, .int .i64 gb, .int .i64 gc, .int .i64 gd] 42 (0, 0)) ∧ W.heap[w9.heap.size]? = some (.cells #[.int .i64 C1, .int .i64 C2, .int .i64 C3, .int .i64 C4] 42 (0, 0)) ∧ W.heap[w11.heap.size]? = some (.cells #[.int .i64 C1, .int .i64 C2, .int .i64 C3, .int .i64 C4] 42 (0, 0)) ∧ W.heap[w13.heap.size]? = some (.cells #[.int .i64 R1, .int .i64 R2, .int .i64 R3, .int .i64 R4] 42 (0, 0)) ∧ W.heap[w15.heap.size]? = some (.cells #[.int .i64 R1, .int .i64 R2, .int .i64 R3, .int .i64 R4] 42 (0, 0)) ∧ W.heap[w21.heap.size]? = some (.cells #[.int .i64 ha, .int .i64 hb, .int .i64 hc, .int .i64 hd] 42 (0, 0)) ∧ W.heap[w21.heap.size + 1]? = some (.cells #[.int .i64 m, .int .i64 e] 34 (0, 0))) (by refine ⟨?_, ?_, ?_, ?_, ?_, ?_, ?_, ?_, ?_, ?_, ?_⟩ <;> (repeat' first | (with_reducible first | assumption | (apply Ne.symm; assumption) | apply Nat.le_refl | apply Nat.le_add_right | apply zL | apply zRf | apply Wx.box | apply Wx.box4 | apply zWa | apply Wx.drew | apply zWn | apply bx_drew | apply bx_drewN | apply bx_set3 | apply bx_set2 | apply bx_set4 | apply bx_set1) | ((with_reducible apply bx_new); (focus (go_size; done))) | (with_reducible first | apply zOl | apply zFa | apply zDn | apply zDr | apply zAl | apply zSt | refine zVi (by assumption) ?_ ?_) | go_size | omega)) ?_
  clear k_F_23_0 k_F_23_1 k_F_23_2 k_F_23_3 f_F_23 H_F_23
  clear k_S_23_0 k_S_23_1 k_S_23_2 k_S_23_3 f_S_23 H_S_23
  clear k_Sz_23_0 k_Sz_23_1 k_Sz_23_2 k_Sz_23_3 f_Sz_23 H_Sz_23
  clear k_G_23_0 k_G_23_1 k_G_23_2 k_G_23_3 f_G_23 H_G_23
  clear k_C_23_0 k_C_23_1 k_C_23_2 k_C_23_3 f_C_23 H_C_23
  clear k_D_23_0 k_D_23_1 k_D_23_2 k_D_23_3 f_D_23 H_D_23
  clear k_R_23_0 k_R_23_1 k_R_23_2 k_R_23_3 f_R_23 H_R_23
  clear k_Rz_23_0 k_Rz_23_1 k_Rz_23_2 k_Rz_23_3 f_Rz_23 H_Rz_23
  clear k_H_23_0 k_H_23_1 k_H_23_2 k_H_23_3 f_H_23 H_H_23
  clear k_X_23_0 k_X_23_1 f_X_23 H_X_23
  clear hB23
  rintro w24 ⟨hB24, H_F_24, H_S_24, H_Sz_24, H_G_24, H_C_24, H_D_24, H_R_24, H_Rz_24, H_H_24, H_X_24⟩
  obtain ⟨k_F_24_0, k_F_24_1, k_F_24_2, k_F_24_3, f_F_24, l_F_24⟩ := bk4 H_F_24
  replace H_F_24 := Lib.hid H_F_24
  obtain ⟨k_S_24_0, k_S_24_1, k_S_24_2, k_S_24_3, f_S_24, l_S_24⟩ := bk4 H_S_24
  replace H_S_24 := Lib.hid H_S_24
  obtain ⟨k_Sz_24_0, k_Sz_24_1, k_Sz_24_2, k_Sz_24_3, f_Sz_24, l_Sz_24⟩ := bk4 H_Sz_24
  replace H_Sz_24 := Lib.hid H_Sz_24
  obtain ⟨k_G_24_0, k_G_24_1, k_G_24_2, k_G_24_3, f_G_24, l_G_24⟩ := bk4 H_G_24
  replace H_G_24 := Lib.hid H_G_24
  obtain ⟨k_C_24_0, k_C_24_1, k_C_24_2, k_C_24_3, f_C_24, l_C_24⟩ := bk4 H_C_24
  replace H_C_24 := Lib.hid H_C_24
  obtain ⟨k_D_24_0, k_D_24_1, k_D_24_2, k_D_24_3, f_D_24, l_D_24⟩ := bk4 H_D_24
  replace H_D_24 := Lib.hid H_D_24
  obtain ⟨k_R_24_0, k_R_24_1, k_R_24_2, k_R_24_3, f_R_24, l_R_24⟩ := bk4 H_R_24
  replace H_R_24 := Lib.hid H_R_24
  obtain ⟨k_Rz_24_0, k_Rz_24_1, k_Rz_24_2, k_Rz_24_3, f_Rz_24, l_Rz_24⟩ := bk4 H_Rz_24
  replace H_Rz_24 := Lib.hid H_Rz_24
  obtain ⟨k_H_24_0, k_H_24_1, k_H_24_2, k_H_24_3, f_H_24, l_H_24⟩ := bk4 H_H_24
  replace H_H_24 := Lib.hid H_H_24
  obtain ⟨k_X_24_0, k_X_24_1, f_X_24, l_X_24⟩ := bk2 H_X_24
  replace H_X_24 := Lib.hid H_X_24
  go_upto_region 16 with (first | (have _t := tok25; go_at_call 22; (with_reducible refine ((T25 _).out).mono ?_); rintro e w25 ⟨rfl, hb25⟩; clear tok25 _t; have hz25 := hb25.size; (try simp only [World.size_alloc, World.size_setCell, World.size_drew, World.size_drewN'] at hz25)))
  have H_F_25 := (hb25.block (w1.heap.size) (blk_lt' H_F_24.out)).trans H_F_24.out
  clear k_F_24_0 k_F_24_1 k_F_24_2 k_F_24_3 f_F_24 H_F_24
  obtain ⟨k_F_25_0, k_F_25_1, k_F_25_2, k_F_25_3, f_F_25, l_F_25⟩ := bk4 H_F_25
  replace H_F_25 := Lib.hid H_F_25
  have H_S_25 := (hb25.block (w3.heap.size) (blk_lt' H_S_24.out)).trans H_S_24.out
  clear k_S_24_0 k_S_24_1 k_S_24_2 k_S_24_3 f_S_24 H_S_24
  obtain ⟨k_S_25_0, k_S_25_1, k_S_25_2, k_S_25_3, f_S_25, l_S_25⟩ := bk4 H_S_25
  replace H_S_25 := Lib.hid H_S_25
  have H_Sz_25 := (hb25.block (w5.heap.size) (blk_lt' H_Sz_24.out)).trans H_Sz_24.out
  clear k_Sz_24_0 k_Sz_24_1 k_Sz_24_2 k_Sz_24_3 f_Sz_24 H_Sz_24
  obtain ⟨k_Sz_25_0, k_Sz_25_1, k_Sz_25_2, k_Sz_25_3, f_Sz_25, l_Sz_25⟩ := bk4 H_Sz_25
  replace H_Sz_25 := Lib.hid H_Sz_25
  have H_G_25 := (hb25.block (w7.heap.size) (blk_lt' H_G_24.out)).trans H_G_24.out
  clear k_G_24_0 k_G_24_1 k_G_24_2 k_G_24_3 f_G_24 H_G_24
  obtain ⟨k_G_25_0, k_G_25_1, k_G_25_2, k_G_25_3, f_G_25, l_G_25⟩ := bk4 H_G_25
  replace H_G_25 := Lib.hid H_G_25
  have H_C_25 := (hb25.block (w9.heap.size) (blk_lt' H_C_24.out)).trans H_C_24.out
  clear k_C_24_0 k_C_24_1 k_C_24_2 k_C_24_3 f_C_24 H_C_24
  obtain ⟨k_C_25_0, k_C_25_1, k_C_25_2, k_C_25_3, f_C_25, l_C_25⟩ := bk4 H_C_25
  replace H_C_25 := Lib.hid H_C_25
  have H_D_25 := (hb25.block (w11.heap.size) (blk_lt' H_D_24.out)).trans H_D_24.out
  clear k_D_24_0 k_D_24_1 k_D_24_2 k_D_24_3 f_D_24 H_D_24
  obtain ⟨k_D_25_0, k_D_25_1, k_D_25_2, k_D_25_3, f_D_25, l_D_25⟩ := bk4 H_D_25
  replace H_D_25 := Lib.hid H_D_25
  have H_R_25 := (hb25.block (w13.heap.size) (blk_lt' H_R_24.out)).trans H_R_24.out
  clear k_R_24_0 k_R_24_1 k_R_24_2 k_R_24_3 f_R_24 H_R_24
  obtain ⟨k_R_25_0, k_R_25_1, k_R_25_2, k_R_25_3, f_R_25, l_R_25⟩ := bk4 H_R_25
  replace H_R_25 := Lib.hid H_R_25
  have H_Rz_25 := (hb25.block (w15.heap.size) (blk_lt' H_Rz_24.out)).trans H_Rz_24.out
  clear k_Rz_24_0 k_Rz_24_1 k_Rz_24_2 k_Rz_24_3 f_Rz_24 H_Rz_24
  obtain ⟨k_Rz_25_0, k_Rz_25_1, k_Rz_25_2, k_Rz_25_3, f_Rz_25, l_Rz_25⟩ := bk4 H_Rz_25
  replace H_Rz_25 := Lib.hid H_Rz_25
  have H_H_25 := (hb25.block (w21.heap.size) (blk_lt' H_H_24.out)).trans H_H_24.out
  clear k_H_24_0 k_H_24_1 k_H_24_2 k_H_24_3 f_H_24 H_H_24
  obtain ⟨k_H_25_0, k_H_25_1, k_H_25_2, k_H_25_3, f_H_25, l_H_25⟩ := bk4 H_H_25
  replace H_H_25 := Lib.hid H_H_25
  have H_X_25 := (hb25.block (w21.heap.size + 1) (blk_lt' H_X_24.out)).trans H_X_24.out
  clear k_X_24_0 k_X_24_1 f_X_24 H_X_24
  obtain ⟨k_X_25_0, k_X_25_1, f_X_25, l_X_25⟩ := bk2 H_X_25
  replace H_X_25 := Lib.hid H_X_25
  have hB25 : Below w.heap.size w w25 := below_via hb25 (by assumption) (by first | exact hB24.size | go_size)
  clear hb25 T25
  replace H_F_25 := H_F_25.out
  replace H_S_25 := H_S_25.out
  replace H_Sz_25 := H_Sz_25.out
  replace H_G_25 := H_G_25.out
  replace H_C_25 := H_C_25.out
  replace H_D_25 := H_D_25.out
  replace H_R_25 := H_R_25.out
  replace H_Rz_25 := H_Rz_25.out
  replace H_H_25 := H_H_25.out
  replace H_X_25 := H_X_25.out
  refine chk (fun W => Below w.heap.size w W ∧ W.heap[w1.heap.size]? = some (.cells #[.int .i64 a, .int .i64 b, .int .i64 c, .int .i64 d] 42 (0, 0)) ∧ W.heap[w3.heap.size]? = some (.cells #[.int .i64 S1, .int .i64 S2, .int .i64 S3, .int .i64 S4] 42 (0, 0)) ∧ W.heap[w5.heap.size]? = some (.cells #[.int .i64 S1, .int .i64 S2, .int .i64 S3, .int .i64 S4] 42 (0, 0)) ∧ W.heap[w7.heap.size]? = some (.cells #[.int .i64 ga, .int .i64 gb, .int .i64 gc, .int .i64 gd] 42 (0, 0)) ∧ W.heap[w9.heap.size]? = some (.cells #[.int .i64 C1, .int .i64 C2, .int .i64 C3, .int .i64 C4] 42 (0, 0)) ∧ W.heap[w11.heap.size]? = some (.cells #[.int .i64 C1, .int .i64 C2, .int .i64 C3, .int .i64 C4] 42 (0, 0)) ∧ W.heap[w13.heap.size]? = some (.cells #[.int .i64 R1, .int .i64 R2, .int .i64 R3, .int .i64 R4] 42 (0, 0)) ∧ W.heap[w15.heap.size]? = some (.cells #[.int .i64 R1, .int .i64 R2, .int .i64 R3, .int .i64 R4] 42 (0, 0)) ∧ W.heap[w21.heap.size]? = some (.cells #[.int .i64 ha, .int .i64 hb, .int .i64 hc, .int .i64 hd] 42 (0, 0)) ∧ W.heap[w21.heap.size + 1]? = some (.cells #[.int .i64 m, .int .i64 e] 34 (0, 0))) (by refine ⟨?_, ?_, ?_, ?_, ?_, ?_, ?_, ?_, ?_, ?_, ?_⟩ <;> (repeat' first | (with_reducible first | assumption | (apply Ne.symm; assumption) | apply Nat.le_refl | apply Nat.le_add_right | apply zL | apply zRf | apply Wx.box | apply Wx.box4 | apply zWa | apply Wx.drew | apply zWn | apply bx_drew | apply bx_drewN | apply bx_set3 | apply bx_set2 | apply bx_set4 | apply bx_set1) | ((with_reducible apply bx_new); (focus (go_size; done))) | (with_reducible first | apply zOl | apply zFa | apply zDn | apply zDr | apply zAl | apply zSt | refine zVi (by assumption) ?_ ?_) | go_size | omega)) ?_
  clear k_F_25_0 k_F_25_1 k_F_25_2 k_F_25_3 f_F_25 H_F_25
  clear k_S_25_0 k_S_25_1 k_S_25_2 k_S_25_3 f_S_25 H_S_25
  clear k_Sz_25_0 k_Sz_25_1 k_Sz_25_2 k_Sz_25_3 f_Sz_25 H_Sz_25
  clear k_G_25_0 k_G_25_1 k_G_25_2 k_G_25_3 f_G_25 H_G_25
  clear k_C_25_0 k_C_25_1 k_C_25_2 k_C_25_3 f_C_25 H_C_25
  clear k_D_25_0 k_D_25_1 k_D_25_2 k_D_25_3 f_D_25 H_D_25
  clear k_R_25_0 k_R_25_1 k_R_25_2 k_R_25_3 f_R_25 H_R_25
  clear k_Rz_25_0 k_Rz_25_1 k_Rz_25_2 k_Rz_25_3 f_Rz_25 H_Rz_25
  clear k_H_25_0 k_H_25_1 k_H_25_2 k_H_25_3 f_H_25 H_H_25
  clear k_X_25_0 k_X_25_1 f_X_25 H_X_25
  clear hB25
  rintro w26 ⟨hB26, H_F_26, H_S_26, H_Sz_26, H_G_26, H_C_26, H_D_26, H_R_26, H_Rz_26, H_H_26, H_X_26⟩
  obtain ⟨k_F_26_0, k_F_26_1, k_F_26_2, k_F_26_3, f_F_26, l_F_26⟩ := bk4 H_F_26
  replace H_F_26 := Lib.hid H_F_26
  obtain ⟨k_S_26_0, k_S_26_1, k_S_26_2, k_S_26_3, f_S_26, l_S_26⟩ := bk4 H_S_26
  replace H_S_26 := Lib.hid H_S_26
  obtain ⟨k_Sz_26_0, k_Sz_26_1, k_Sz_26_2, k_Sz_26_3, f_Sz_26, l_Sz_26⟩ := bk4 H_Sz_26
  replace H_Sz_26 := Lib.hid H_Sz_26
  obtain ⟨k_G_26_0, k_G_26_1, k_G_26_2, k_G_26_3, f_G_26, l_G_26⟩ := bk4 H_G_26
  replace H_G_26 := Lib.hid H_G_26
  obtain ⟨k_C_26_0, k_C_26_1, k_C_26_2, k_C_26_3, f_C_26, l_C_26⟩ := bk4 H_C_26
  replace H_C_26 := Lib.hid H_C_26
  obtain ⟨k_D_26_0, k_D_26_1, k_D_26_2, k_D_26_3, f_D_26, l_D_26⟩ := bk4 H_D_26
  replace H_D_26 := Lib.hid H_D_26
  obtain ⟨k_R_26_0, k_R_26_1, k_R_26_2, k_R_26_3, f_R_26, l_R_26⟩ := bk4 H_R_26
  replace H_R_26 := Lib.hid H_R_26
  obtain ⟨k_Rz_26_0, k_Rz_26_1, k_Rz_26_2, k_Rz_26_3, f_Rz_26, l_Rz_26⟩ := bk4 H_Rz_26
  replace H_Rz_26 := Lib.hid H_Rz_26
  obtain ⟨k_H_26_0, k_H_26_1, k_H_26_2, k_H_26_3, f_H_26, l_H_26⟩ := bk4 H_H_26
  replace H_H_26 := Lib.hid H_H_26
  obtain ⟨k_X_26_0, k_X_26_1, f_X_26, l_X_26⟩ := bk2 H_X_26
  replace H_X_26 := Lib.hid H_X_26
  go_upto_region 17 with (first | (have _t := tok27; go_at_call 23; refine (DrawCubicAt_any (h2.below (by repeat' first | (with_reducible first | apply zRf | assumption | apply zDn | apply zDr | apply zAl | apply zSt | refine zVi (by assumption) ?_ ?_) | go_size))).mono ?_; rintro e w27 ⟨pa, pb, pc, pd, y, rfl, hy, hb27⟩; clear tok27 _t; have hz27 := hb27.size; (try simp only [World.size_alloc, World.size_setCell, World.size_drew, World.size_drewN'] at hz27)))
  have H_F_27 := (hb27.block (w1.heap.size) (blk_lt' H_F_26.out)).trans H_F_26.out
  clear k_F_26_0 k_F_26_1 k_F_26_2 k_F_26_3 f_F_26 H_F_26
  obtain ⟨k_F_27_0, k_F_27_1, k_F_27_2, k_F_27_3, f_F_27, l_F_27⟩ := bk4 H_F_27
  replace H_F_27 := Lib.hid H_F_27
  have H_S_27 := (hb27.block (w3.heap.size) (blk_lt' H_S_26.out)).trans H_S_26.out
  clear k_S_26_0 k_S_26_1 k_S_26_2 k_S_26_3 f_S_26 H_S_26
  obtain ⟨k_S_27_0, k_S_27_1, k_S_27_2, k_S_27_3, f_S_27, l_S_27⟩ := bk4 H_S_27
  replace H_S_27 := Lib.hid H_S_27
  have H_Sz_27 := (hb27.block (w5.heap.size) (blk_lt' H_Sz_26.out)).trans H_Sz_26.out
  clear k_Sz_26_0 k_Sz_26_1 k_Sz_26_2 k_Sz_26_3 f_Sz_26 H_Sz_26
  obtain ⟨k_Sz_27_0, k_Sz_27_1, k_Sz_27_2, k_Sz_27_3, f_Sz_27, l_Sz_27⟩ := bk4 H_Sz_27
  replace H_Sz_27 := Lib.hid H_Sz_27
  have H_G_27 := (hb27.block (w7.heap.size) (blk_lt' H_G_26.out)).trans H_G_26.out
  clear k_G_26_0 k_G_26_1 k_G_26_2 k_G_26_3 f_G_26 H_G_26
  obtain ⟨k_G_27_0, k_G_27_1, k_G_27_2, k_G_27_3, f_G_27, l_G_27⟩ := bk4 H_G_27
  replace H_G_27 := Lib.hid H_G_27
  have H_C_27 := (hb27.block (w9.heap.size) (blk_lt' H_C_26.out)).trans H_C_26.out
  clear k_C_26_0 k_C_26_1 k_C_26_2 k_C_26_3 f_C_26 H_C_26
  obtain ⟨k_C_27_0, k_C_27_1, k_C_27_2, k_C_27_3, f_C_27, l_C_27⟩ := bk4 H_C_27
  replace H_C_27 := Lib.hid H_C_27
  have H_D_27 := (hb27.block (w11.heap.size) (blk_lt' H_D_26.out)).trans H_D_26.out
  clear k_D_26_0 k_D_26_1 k_D_26_2 k_D_26_3 f_D_26 H_D_26
  obtain ⟨k_D_27_0, k_D_27_1, k_D_27_2, k_D_27_3, f_D_27, l_D_27⟩ := bk4 H_D_27
  replace H_D_27 := Lib.hid H_D_27
  have H_R_27 := (hb27.block (w13.heap.size) (blk_lt' H_R_26.out)).trans H_R_26.out
  clear k_R_26_0 k_R_26_1 k_R_26_2 k_R_26_3 f_R_26 H_R_26
  obtain ⟨k_R_27_0, k_R_27_1, k_R_27_2, k_R_27_3, f_R_27, l_R_27⟩ := bk4 H_R_27
  replace H_R_27 := Lib.hid H_R_27
  have H_Rz_27 := (hb27.block (w15.heap.size) (blk_lt' H_Rz_26.out)).trans H_Rz_26.out
  clear k_Rz_26_0 k_Rz_26_1 k_Rz_26_2 k_Rz_26_3 f_Rz_26 H_Rz_26
  obtain ⟨k_Rz_27_0, k_Rz_27_1, k_Rz_27_2, k_Rz_27_3, f_Rz_27, l_Rz_27⟩ := bk4 H_Rz_27
  replace H_Rz_27 := Lib.hid H_Rz_27
  have H_H_27 := (hb27.block (w21.heap.size) (blk_lt' H_H_26.out)).trans H_H_26.out
  clear k_H_26_0 k_H_26_1 k_H_26_2 k_H_26_3 f_H_26 H_H_26
  obtain ⟨k_H_27_0, k_H_27_1, k_H_27_2, k_H_27_3, f_H_27, l_H_27⟩ := bk4 H_H_27
  replace H_H_27 := Lib.hid H_H_27
  have H_X_27 := (hb27.block (w21.heap.size + 1) (blk_lt' H_X_26.out)).trans H_X_26.out
  clear k_X_26_0 k_X_26_1 f_X_26 H_X_26
  obtain ⟨k_X_27_0, k_X_27_1, f_X_27, l_X_27⟩ := bk2 H_X_27
  replace H_X_27 := Lib.hid H_X_27
  have hB27 : Below w.heap.size w w27 := below_via hb27 (by assumption) (by first | exact hB26.size | go_size)
  clear hb27
  obtain ⟨V, o9, R29, R31⟩ := cu_set4 pa pb pc pd y
  have T29 := fun W : World => Lib.hid (R29 W)
  have T31 := fun W : World => Lib.hid (R31 W)
  clear R29 R31
  replace H_F_27 := H_F_27.out
  replace H_S_27 := H_S_27.out
  replace H_Sz_27 := H_Sz_27.out
  replace H_G_27 := H_G_27.out
  replace H_C_27 := H_C_27.out
  replace H_D_27 := H_D_27.out
  replace H_R_27 := H_R_27.out
  replace H_Rz_27 := H_Rz_27.out
  replace H_H_27 := H_H_27.out
  replace H_X_27 := H_X_27.out
  refine chk (fun W => Below w.heap.size w W ∧ W.heap[w1.heap.size]? = some (.cells #[.int .i64 a, .int .i64 b, .int .i64 c, .int .i64 d] 42 (0, 0)) ∧ W.heap[w3.heap.size]? = some (.cells #[.int .i64 S1, .int .i64 S2, .int .i64 S3, .int .i64 S4] 42 (0, 0)) ∧ W.heap[w5.heap.size]? = some (.cells #[.int .i64 S1, .int .i64 S2, .int .i64 S3, .int .i64 S4] 42 (0, 0)) ∧ W.heap[w7.heap.size]? = some (.cells #[.int .i64 ga, .int .i64 gb, .int .i64 gc, .int .i64 gd] 42 (0, 0)) ∧ W.heap[w9.heap.size]? = some (.cells #[.int .i64 C1, .int .i64 C2, .int .i64 C3, .int .i64 C4] 42 (0, 0)) ∧ W.heap[w11.heap.size]? = some (.cells #[.int .i64 C1, .int .i64 C2, .int .i64 C3, .int .i64 C4] 42 (0, 0)) ∧ W.heap[w13.heap.size]? = some (.cells #[.int .i64 R1, .int .i64 R2, .int .i64 R3, .int .i64 R4] 42 (0, 0)) ∧ W.heap[w15.heap.size]? = some (.cells #[.int .i64 R1, .int .i64 R2, .int .i64 R3, .int .i64 R4] 42 (0, 0)) ∧ W.heap[w21.heap.size]? = some (.cells #[.int .i64 ha, .int .i64 hb, .int .i64 hc, .int .i64 hd] 42 (0, 0)) ∧ W.heap[w21.heap.size + 1]? = some (.cells #[.int .i64 m, .int .i64 e] 34 (0, 0)) ∧ W.heap[w27.heap.size]? = some (.cells #[.int .i64 pa, .int .i64 pb, .int .i64 pc, .int .i64 pd] 42 (0, 0))) (by refine ⟨?_, ?_, ?_, ?_, ?_, ?_, ?_, ?_, ?_, ?_, ?_, ?_⟩ <;> (repeat' first | (with_reducible first | assumption | (apply Ne.symm; assumption) | apply Nat.le_refl | apply Nat.le_add_right | apply zL | apply zRf | apply Wx.box | apply Wx.box4 | apply zWa | apply Wx.drew | apply zWn | apply bx_drew | apply bx_drewN | apply bx_set3 | apply bx_set2 | apply bx_set4 | apply bx_set1) | ((with_reducible apply bx_new); (focus (go_size; done))) | (with_reducible first | apply zOl | apply zFa | apply zDn | apply zDr | apply zAl | apply zSt | refine zVi (by assumption) ?_ ?_) | go_size | omega)) ?_
  clear k_F_27_0 k_F_27_1 k_F_27_2 k_F_27_3 f_F_27 H_F_27
  clear k_S_27_0 k_S_27_1 k_S_27_2 k_S_27_3 f_S_27 H_S_27
  clear k_Sz_27_0 k_Sz_27_1 k_Sz_27_2 k_Sz_27_3 f_Sz_27 H_Sz_27
  clear k_G_27_0 k_G_27_1 k_G_27_2 k_G_27_3 f_G_27 H_G_27
  clear k_C_27_0 k_C_27_1 k_C_27_2 k_C_27_3 f_C_27 H_C_27
  clear k_D_27_0 k_D_27_1 k_D_27_2 k_D_27_3 f_D_27 H_D_27
  clear k_R_27_0 k_R_27_1 k_R_27_2 k_R_27_3 f_R_27 H_R_27
  clear k_Rz_27_0 k_Rz_27_1 k_Rz_27_2 k_Rz_27_3 f_Rz_27 H_Rz_27
  clear k_H_27_0 k_H_27_1 k_H_27_2 k_H_27_3 f_H_27 H_H_27
  clear k_X_27_0 k_X_27_1 f_X_27 H_X_27
  clear hB27
  rintro w28 ⟨hB28, H_F_28, H_S_28, H_Sz_28, H_G_28, H_C_28, H_D_28, H_R_28, H_Rz_28, H_H_28, H_X_28, H_P_28⟩
  obtain ⟨k_F_28_0, k_F_28_1, k_F_28_2, k_F_28_3, f_F_28, l_F_28⟩ := bk4 H_F_28
  replace H_F_28 := Lib.hid H_F_28
  obtain ⟨k_S_28_0, k_S_28_1, k_S_28_2, k_S_28_3, f_S_28, l_S_28⟩ := bk4 H_S_28
  replace H_S_28 := Lib.hid H_S_28
  obtain ⟨k_Sz_28_0, k_Sz_28_1, k_Sz_28_2, k_Sz_28_3, f_Sz_28, l_Sz_28⟩ := bk4 H_Sz_28
  replace H_Sz_28 := Lib.hid H_Sz_28
  obtain ⟨k_G_28_0, k_G_28_1, k_G_28_2, k_G_28_3, f_G_28, l_G_28⟩ := bk4 H_G_28
  replace H_G_28 := Lib.hid H_G_28
  obtain ⟨k_C_28_0, k_C_28_1, k_C_28_2, k_C_28_3, f_C_28, l_C_28⟩ := bk4 H_C_28
  replace H_C_28 := Lib.hid H_C_28
  obtain ⟨k_D_28_0, k_D_28_1, k_D_28_2, k_D_28_3, f_D_28, l_D_28⟩ := bk4 H_D_28
  replace H_D_28 := Lib.hid H_D_28
  obtain ⟨k_R_28_0, k_R_28_1, k_R_28_2, k_R_28_3, f_R_28, l_R_28⟩ := bk4 H_R_28
  replace H_R_28 := Lib.hid H_R_28
  obtain ⟨k_Rz_28_0, k_Rz_28_1, k_Rz_28_2, k_Rz_28_3, f_Rz_28, l_Rz_28⟩ := bk4 H_Rz_28
  replace H_Rz_28 := Lib.hid H_Rz_28
  obtain ⟨k_H_28_0, k_H_28_1, k_H_28_2, k_H_28_3, f_H_28, l_H_28⟩ := bk4 H_H_28
  replace H_H_28 := Lib.hid H_H_28
  obtain ⟨k_X_28_0, k_X_28_1, f_X_28, l_X_28⟩ := bk2 H_X_28
  replace H_X_28 := Lib.hid H_X_28
  obtain ⟨k_P_28_0, k_P_28_1, k_P_28_2, k_P_28_3, f_P_28, l_P_28⟩ := bk4 H_P_28
  replace H_P_28 := Lib.hid H_P_28
  clear h2 hy
  go_upto_region 18 with (first | (have _t := tok29; go_at_call 24; (with_reducible refine ((T29 _).out).mono ?_); rintro e w29 ⟨rfl, hb29⟩; clear tok29 _t; have hz29 := hb29.size; (try simp only [World.size_alloc, World.size_setCell, World.size_drew, World.size_drewN'] at hz29)))
  have H_F_29 := (hb29.block (w1.heap.size) (blk_lt' H_F_28.out)).trans H_F_28.out
  clear k_F_28_0 k_F_28_1 k_F_28_2 k_F_28_3 f_F_28 H_F_28
  obtain ⟨k_F_29_0, k_F_29_1, k_F_29_2, k_F_29_3, f_F_29, l_F_29⟩ := bk4 H_F_29
  replace H_F_29 := Lib.hid H_F_29
  have H_S_29 := (hb29.block (w3.heap.size) (blk_lt' H_S_28.out)).trans H_S_28.out
  clear k_S_28_0 k_S_28_1 k_S_28_2 k_S_28_3 f_S_28 H_S_28
  obtain ⟨k_S_29_0, k_S_29_1, k_S_29_2, k_S_29_3, f_S_29, l_S_29⟩ := bk4 H_S_29
  replace H_S_29 := Lib.hid H_S_29
  have H_Sz_29 := (hb29.block (w5.heap.size) (blk_lt' H_Sz_28.out)).trans H_Sz_28.out
  clear k_Sz_28_0 k_Sz_28_1 k_Sz_28_2 k_Sz_28_3 f_Sz_28 H_Sz_28
  obtain ⟨k_Sz_29_0, k_Sz_29_1, k_Sz_29_2, k_Sz_29_3, f_Sz_29, l_Sz_29⟩ := bk4 H_Sz_29
  replace H_Sz_29 := Lib.hid H_Sz_29
  have H_G_29 := (hb29.block (w7.heap.size) (blk_lt' H_G_28.out)).trans H_G_28.out
  clear k_G_28_0 k_G_28_1 k_G_28_2 k_G_28_3 f_G_28 H_G_28
  obtain ⟨k_G_29_0, k_G_29_1, k_G_29_2, k_G_29_3, f_G_29, l_G_29⟩ := bk4 H_G_29
  replace H_G_29 := Lib.hid H_G_29
  have H_C_29 := (hb29.block (w9.heap.size) (blk_lt' H_C_28.out)).trans H_C_28.out
  clear k_C_28_0 k_C_28_1 k_C_28_2 k_C_28_3 f_C_28 H_C_28
  obtain ⟨k_C_29_0, k_C_29_1, k_C_29_2, k_C_29_3, f_C_29, l_C_29⟩ := bk4 H_C_29
  replace H_C_29 := Lib.hid H_C_29
  have H_D_29 := (hb29.block (w11.heap.size) (blk_lt' H_D_28.out)).trans H_D_28.out
  clear k_D_28_0 k_D_28_1 k_D_28_2 k_D_28_3 f_D_28 H_D_28
  obtain ⟨k_D_29_0, k_D_29_1, k_D_29_2, k_D_29_3, f_D_29, l_D_29⟩ := bk4 H_D_29
  replace H_D_29 := Lib.hid H_D_29
  have H_R_29 := (hb29.block (w13.heap.size) (blk_lt' H_R_28.out)).trans H_R_28.out
  clear k_R_28_0 k_R_28_1 k_R_28_2 k_R_28_3 f_R_28 H_R_28
  obtain ⟨k_R_29_0, k_R_29_1, k_R_29_2, k_R_29_3, f_R_29, l_R_29⟩ := bk4 H_R_29
  replace H_R_29 := Lib.hid H_R_29
  have H_Rz_29 := (hb29.block (w15.heap.size) (blk_lt' H_Rz_28.out)).trans H_Rz_28.out
  clear k_Rz_28_0 k_Rz_28_1 k_Rz_28_2 k_Rz_28_3 f_Rz_28 H_Rz_28
  obtain ⟨k_Rz_29_0, k_Rz_29_1, k_Rz_29_2, k_Rz_29_3, f_Rz_29, l_Rz_29⟩ := bk4 H_Rz_29
  replace H_Rz_29 := Lib.hid H_Rz_29
  have H_H_29 := (hb29.block (w21.heap.size) (blk_lt' H_H_28.out)).trans H_H_28.out
  clear k_H_28_0 k_H_28_1 k_H_28_2 k_H_28_3 f_H_28 H_H_28
  obtain ⟨k_H_29_0, k_H_29_1, k_H_29_2, k_H_29_3, f_H_29, l_H_29⟩ := bk4 H_H_29
  replace H_H_29 := Lib.hid H_H_29
  have H_X_29 := (hb29.block (w21.heap.size + 1) (blk_lt' H_X_28.out)).trans H_X_28.out
  clear k_X_28_0 k_X_28_1 f_X_28 H_X_28
  obtain ⟨k_X_29_0, k_X_29_1, f_X_29, l_X_29⟩ := bk2 H_X_29
  replace H_X_29 := Lib.hid H_X_29
  have H_P_29 := (hb29.block (w27.heap.size) (blk_lt' H_P_28.out)).trans H_P_28.out
  clear k_P_28_0 k_P_28_1 k_P_28_2 k_P_28_3 f_P_28 H_P_28
  obtain ⟨k_P_29_0, k_P_29_1, k_P_29_2, k_P_29_3, f_P_29, l_P_29⟩ := bk4 H_P_29
  replace H_P_29 := Lib.hid H_P_29
  have hB29 : Below w.heap.size w w29 := below_via hb29 (by assumption) (by first | exact hB28.size | go_size)
  clear hb29 T29
  replace H_F_29 := H_F_29.out
  replace H_S_29 := H_S_29.out
  replace H_Sz_29 := H_Sz_29.out
  replace H_G_29 := H_G_29.out
  replace H_C_29 := H_C_29.out
  replace H_D_29 := H_D_29.out
  replace H_R_29 := H_R_29.out
  replace H_Rz_29 := H_Rz_29.out
  replace H_H_29 := H_H_29.out
  replace H_X_29 := H_X_29.out
  replace H_P_29 := H_P_29.out
  refine chk (fun W => Below w.heap.size w W ∧ W.heap[w1.heap.size]? = some (.cells #[.int .i64 a, .int .i64 b, .int .i64 c, .int .i64 d] 42 (0, 0)) ∧ W.heap[w3.heap.size]? = some (.cells #[.int .i64 S1, .int .i64 S2, .int .i64 S3, .int .i64 S4] 42 (0, 0)) ∧ W.heap[w5.heap.size]? = some (.cells #[.int .i64 S1, .int .i64 S2, .int .i64 S3, .int .i64 S4] 42 (0, 0)) ∧ W.heap[w7.heap.size]? = some (.cells #[.int .i64 ga, .int .i64 gb, .int .i64 gc, .int .i64 gd] 42 (0, 0)) ∧ W.heap[w9.heap.size]? = some (.cells #[.int .i64 C1, .int .i64 C2, .int .i64 C3, .int .i64 C4] 42 (0, 0)) ∧ W.heap[w11.heap.size]? = some (.cells #[.int .i64 C1, .int .i64 C2, .int .i64 C3, .int .i64 C4] 42 (0, 0)) ∧ W.heap[w13.heap.size]? = some (.cells #[.int .i64 R1, .int .i64 R2, .int .i64 R3, .int .i64 R4] 42 (0, 0)) ∧ W.heap[w15.heap.size]? = some (.cells #[.int .i64 R1, .int .i64 R2, .int .i64 R3, .int .i64 R4] 42 (0, 0)) ∧ W.heap[w21.heap.size]? = some (.cells #[.int .i64 ha, .int .i64 hb, .int .i64 hc, .int .i64 hd] 42 (0, 0)) ∧ W.heap[w21.heap.size + 1]? = some (.cells #[.int .i64 m, .int .i64 e] 34 (0, 0)) ∧ W.heap[w27.heap.size]? = some (.cells #[.int .i64 pa, .int .i64 pb, .int .i64 pc, .int .i64 pd] 42 (0, 0))) (by refine ⟨?_, ?_, ?_, ?_, ?_, ?_, ?_, ?_, ?_, ?_, ?_, ?_⟩ <;> (repeat' first | (with_reducible first | assumption | (apply Ne.symm; assumption) | apply Nat.le_refl | apply Nat.le_add_right | apply zL | apply zRf | apply Wx.box | apply Wx.box4 | apply zWa | apply Wx.drew | apply zWn | apply bx_drew | apply bx_drewN | apply bx_set3 | apply bx_set2 | apply bx_set4 | apply bx_set1) | ((with_reducible apply bx_new); (focus (go_size; done))) | (with_reducible first | apply zOl | apply zFa | apply zDn | apply zDr | apply zAl | apply zSt | refine zVi (by assumption) ?_ ?_) | go_size | omega)) ?_
  clear k_F_29_0 k_F_29_1 k_F_29_2 k_F_29_3 f_F_29 H_F_29
  clear k_S_29_0 k_S_29_1 k_S_29_2 k_S_29_3 f_S_29 H_S_29
  clear k_Sz_29_0 k_Sz_29_1 k_Sz_29_2 k_Sz_29_3 f_Sz_29 H_Sz_29
  clear k_G_29_0 k_G_29_1 k_G_29_2 k_G_29_3 f_G_29 H_G_29
  clear k_C_29_0 k_C_29_1 k_C_29_2 k_C_29_3 f_C_29 H_C_29
  clear k_D_29_0 k_D_29_1 k_D_29_2 k_D_29_3 f_D_29 H_D_29
  clear k_R_29_0 k_R_29_1 k_R_29_2 k_R_29_3 f_R_29 H_R_29
  clear k_Rz_29_0 k_Rz_29_1 k_Rz_29_2 k_Rz_29_3 f_Rz_29 H_Rz_29
  clear k_H_29_0 k_H_29_1 k_H_29_2 k_H_29_3 f_H_29 H_H_29
  clear k_X_29_0 k_X_29_1 f_X_29 H_X_29
  clear k_P_29_0 k_P_29_1 k_P_29_2 k_P_29_3 f_P_29 H_P_29
  clear hB29
  rintro w30 ⟨hB30, H_F_30, H_S_30, H_Sz_30, H_G_30, H_C_30, H_D_30, H_R_30, H_Rz_30, H_H_30, H_X_30, H_P_30⟩
  obtain ⟨k_F_30_0, k_F_30_1, k_F_30_2, k_F_30_3, f_F_30, l_F_30⟩ := bk4 H_F_30
  replace H_F_30 := Lib.hid H_F_30
  obtain ⟨k_S_30_0, k_S_30_1, k_S_30_2, k_S_30_3, f_S_30, l_S_30⟩ := bk4 H_S_30
  replace H_S_30 := Lib.hid H_S_30
  obtain ⟨k_Sz_30_0, k_Sz_30_1, k_Sz_30_2, k_Sz_30_3, f_Sz_30, l_Sz_30⟩ := bk4 H_Sz_30
  replace H_Sz_30 := Lib.hid H_Sz_30
  obtain ⟨k_G_30_0, k_G_30_1, k_G_30_2, k_G_30_3, f_G_30, l_G_30⟩ := bk4 H_G_30
  replace H_G_30 := Lib.hid H_G_30
  obtain ⟨k_C_30_0, k_C_30_1, k_C_30_2, k_C_30_3, f_C_30, l_C_30⟩ := bk4 H_C_30
  replace H_C_30 := Lib.hid H_C_30
  obtain ⟨k_D_30_0, k_D_30_1, k_D_30_2, k_D_30_3, f_D_30, l_D_30⟩ := bk4 H_D_30
  replace H_D_30 := Lib.hid H_D_30
  obtain ⟨k_R_30_0, k_R_30_1, k_R_30_2, k_R_30_3, f_R_30, l_R_30⟩ := bk4 H_R_30
  replace H_R_30 := Lib.hid H_R_30
  obtain ⟨k_Rz_30_0, k_Rz_30_1, k_Rz_30_2, k_Rz_30_3, f_Rz_30, l_Rz_30⟩ := bk4 H_Rz_30
  replace H_Rz_30 := Lib.hid H_Rz_30
  obtain ⟨k_H_30_0, k_H_30_1, k_H_30_2, k_H_30_3, f_H_30, l_H_30⟩ := bk4 H_H_30
  replace H_H_30 := Lib.hid H_H_30
  obtain ⟨k_X_30_0, k_X_30_1, f_X_30, l_X_30⟩ := bk2 H_X_30
  replace H_X_30 := Lib.hid H_X_30
  obtain ⟨k_P_30_0, k_P_30_1, k_P_30_2, k_P_30_3, f_P_30, l_P_30⟩ := bk4 H_P_30
  replace H_P_30 := Lib.hid H_P_30
  go_upto_region 19 with (first | (have _t := tok31; go_at_call 25; (with_reducible refine ((T31 _).out).mono ?_); rintro e w31 ⟨rfl, hb31⟩; clear tok31 _t; have hz31 := hb31.size; (try simp only [World.size_alloc, World.size_setCell, World.size_drew, World.size_drewN'] at hz31)))
  have H_F_31 := (hb31.block (w1.heap.size) (blk_lt' H_F_30.out)).trans H_F_30.out
  clear k_F_30_0 k_F_30_1 k_F_30_2 k_F_30_3 f_F_30 H_F_30
  obtain ⟨k_F_31_0, k_F_31_1, k_F_31_2, k_F_31_3, f_F_31, l_F_31⟩ := bk4 H_F_31
  replace H_F_31 := Lib.hid H_F_31
  have H_S_31 := (hb31.block (w3.heap.size) (blk_lt' H_S_30.out)).trans H_S_30.out
  clear k_S_30_0 k_S_30_1 k_S_30_2 k_S_30_3 f_S_30 H_S_30
  obtain ⟨k_S_31_0, k_S_31_1, k_S_31_2, k_S_31_3, f_S_31, l_S_31⟩ := bk4 H_S_31
  replace H_S_31 := Lib.hid H_S_31
  have H_Sz_31 := (hb31.block (w5.heap.size) (blk_lt' H_Sz_30.out)).trans H_Sz_30.out
  clear k_Sz_30_0 k_Sz_30_1 k_Sz_30_2 k_Sz_30_3 f_Sz_30 H_Sz_30
  obtain ⟨k_Sz_31_0, k_Sz_31_1, k_Sz_31_2, k_Sz_31_3, f_Sz_31, l_Sz_31⟩ := bk4 H_Sz_31
  replace H_Sz_31 := Lib.hid H_Sz_31
  have H_G_31 := (hb31.block (w7.heap.size) (blk_lt' H_G_30.out)).trans H_G_30.out
  clear k_G_30_0 k_G_30_1 k_G_30_2 k_G_30_3 f_G_30 H_G_30
  obtain ⟨k_G_31_0, k_G_31_1, k_G_31_2, k_G_31_3, f_G_31, l_G_31⟩ := bk4 H_G_31
  replace H_G_31 := Lib.hid H_G_31
  have H_C_31 := (hb31.block (w9.heap.size) (blk_lt' H_C_30.out)).trans H_C_30.out
  clear k_C_30_0 k_C_30_1 k_C_30_2 k_C_30_3 f_C_30 H_C_30
  obtain ⟨k_C_31_0, k_C_31_1, k_C_31_2, k_C_31_3, f_C_31, l_C_31⟩ := bk4 H_C_31
  replace H_C_31 := Lib.hid H_C_31
  have H_D_31 := (hb31.block (w11.heap.size) (blk_lt' H_D_30.out)).trans H_D_30.out
  clear k_D_30_0 k_D_30_1 k_D_30_2 k_D_30_3 f_D_30 H_D_30
  obtain ⟨k_D_31_0, k_D_31_1, k_D_31_2, k_D_31_3, f_D_31, l_D_31⟩ := bk4 H_D_31
  replace H_D_31 := Lib.hid H_D_31
  have H_R_31 := (hb31.block (w13.heap.size) (blk_lt' H_R_30.out)).trans H_R_30.out
  clear k_R_30_0 k_R_30_1 k_R_30_2 k_R_30_3 f_R_30 H_R_30
  obtain ⟨k_R_31_0, k_R_31_1, k_R_31_2, k_R_31_3, f_R_31, l_R_31⟩ := bk4 H_R_31
  replace H_R_31 := Lib.hid H_R_31
  have H_Rz_31 := (hb31.block (w15.heap.size) (blk_lt' H_Rz_30.out)).trans H_Rz_30.out
  clear k_Rz_30_0 k_Rz_30_1 k_Rz_30_2 k_Rz_30_3 f_Rz_30 H_Rz_30
  obtain ⟨k_Rz_31_0, k_Rz_31_1, k_Rz_31_2, k_Rz_31_3, f_Rz_31, l_Rz_31⟩ := bk4 H_Rz_31
  replace H_Rz_31 := Lib.hid H_Rz_31
  have H_H_31 := (hb31.block (w21.heap.size) (blk_lt' H_H_30.out)).trans H_H_30.out
  clear k_H_30_0 k_H_30_1 k_H_30_2 k_H_30_3 f_H_30 H_H_30
  obtain ⟨k_H_31_0, k_H_31_1, k_H_31_2, k_H_31_3, f_H_31, l_H_31⟩ := bk4 H_H_31
  replace H_H_31 := Lib.hid H_H_31
  have H_X_31 := (hb31.block (w21.heap.size + 1) (blk_lt' H_X_30.out)).trans H_X_30.out
  clear k_X_30_0 k_X_30_1 f_X_30 H_X_30
  obtain ⟨k_X_31_0, k_X_31_1, f_X_31, l_X_31⟩ := bk2 H_X_31
  replace H_X_31 := Lib.hid H_X_31
  have H_P_31 := (hb31.block (w27.heap.size) (blk_lt' H_P_30.out)).trans H_P_30.out
  clear k_P_30_0 k_P_30_1 k_P_30_2 k_P_30_3 f_P_30 H_P_30
  obtain ⟨k_P_31_0, k_P_31_1, k_P_31_2, k_P_31_3, f_P_31, l_P_31⟩ := bk4 H_P_31
  replace H_P_31 := Lib.hid H_P_31
  have hB31 : Below w.heap.size w w31 := below_via hb31 (by assumption) (by first | exact hB30.size | go_size)
  clear hb31 T31
  replace H_F_31 := H_F_31.out
  replace H_S_31 := H_S_31.out
  replace H_Sz_31 := H_Sz_31.out
  replace H_G_31 := H_G_31.out
  replace H_C_31 := H_C_31.out
  replace H_D_31 := H_D_31.out
  replace H_R_31 := H_R_31.out
  replace H_Rz_31 := H_Rz_31.out
  replace H_H_31 := H_H_31.out
  replace H_X_31 := H_X_31.out
  replace H_P_31 := H_P_31.out
  refine chk (fun W => Below w.heap.size w W ∧ W.heap[w1.heap.size]? = some (.cells #[.int .i64 a, .int .i64 b, .int .i64 c, .int .i64 d] 42 (0, 0)) ∧ W.heap[w3.heap.size]? = some (.cells #[.int .i64 S1, .int .i64 S2, .int .i64 S3, .int .i64 S4] 42 (0, 0)) ∧ W.heap[w5.heap.size]? = some (.cells #[.int .i64 S1, .int .i64 S2, .int .i64 S3, .int .i64 S4] 42 (0, 0)) ∧ W.heap[w7.heap.size]? = some (.cells #[.int .i64 ga, .int .i64 gb, .int .i64 gc, .int .i64 gd] 42 (0, 0)) ∧ W.heap[w9.heap.size]? = some (.cells #[.int .i64 C1, .int .i64 C2, .int .i64 C3, .int .i64 C4] 42 (0, 0)) ∧ W.heap[w11.heap.size]? = some (.cells #[.int .i64 C1, .int .i64 C2, .int .i64 C3, .int .i64 C4] 42 (0, 0)) ∧ W.heap[w13.heap.size]? = some (.cells #[.int .i64 R1, .int .i64 R2, .int .i64 R3, .int .i64 R4] 42 (0, 0)) ∧ W.heap[w15.heap.size]? = some (.cells #[.int .i64 R1, .int .i64 R2, .int .i64 R3, .int .i64 R4] 42 (0, 0)) ∧ W.heap[w21.heap.size]? = some (.cells #[.int .i64 ha, .int .i64 hb, .int .i64 hc, .int .i64 hd] 42 (0, 0)) ∧ W.heap[w21.heap.size + 1]? = some (.cells #[.int .i64 m, .int .i64 e] 34 (0, 0)) ∧ W.heap[w27.heap.size]? = some (.cells #[.int .i64 pa, .int .i64 pb, .int .i64 pc, .int .i64 pd] 42 (0, 0))) (by refine ⟨?_, ?_, ?_, ?_, ?_, ?_, ?_, ?_, ?_, ?_, ?_, ?_⟩ <;> (repeat' first | (with_reducible first | assumption | (apply Ne.symm; assumption) | apply Nat.le_refl | apply Nat.le_add_right | apply zL | apply zRf | apply Wx.box | apply Wx.box4 | apply zWa | apply Wx.drew | apply zWn | apply bx_drew | apply bx_drewN | apply bx_set3 | apply bx_set2 | apply bx_set4 | apply bx_set1) | ((with_reducible apply bx_new); (focus (go_size; done))) | (with_reducible first | apply zOl | apply zFa | apply zDn | apply zDr | apply zAl | apply zSt | refine zVi (by assumption) ?_ ?_) | go_size | omega)) ?_
  clear k_F_31_0 k_F_31_1 k_F_31_2 k_F_31_3 f_F_31 H_F_31
  clear k_S_31_0 k_S_31_1 k_S_31_2 k_S_31_3 f_S_31 H_S_31
  clear k_Sz_31_0 k_Sz_31_1 k_Sz_31_2 k_Sz_31_3 f_Sz_31 H_Sz_31
  clear k_G_31_0 k_G_31_1 k_G_31_2 k_G_31_3 f_G_31 H_G_31
  clear k_C_31_0 k_C_31_1 k_C_31_2 k_C_31_3 f_C_31 H_C_31
  clear k_D_31_0 k_D_31_1 k_D_31_2 k_D_31_3 f_D_31 H_D_31
  clear k_R_31_0 k_R_31_1 k_R_31_2 k_R_31_3 f_R_31 H_R_31
  clear k_Rz_31_0 k_Rz_31_1 k_Rz_31_2 k_Rz_31_3 f_Rz_31 H_Rz_31
  clear k_H_31_0 k_H_31_1 k_H_31_2 k_H_31_3 f_H_31 H_H_31
  clear k_X_31_0 k_X_31_1 f_X_31 H_X_31
  clear k_P_31_0 k_P_31_1 k_P_31_2 k_P_31_3 f_P_31 H_P_31
  clear hB31
  rintro w32 ⟨hB32, H_F_32, H_S_32, H_Sz_32, H_G_32, H_C_32, H_D_32, H_R_32, H_Rz_32, H_H_32, H_X_32, H_P_32⟩
  obtain ⟨k_F_32_0, k_F_32_1, k_F_32_2, k_F_32_3, f_F_32, l_F_32⟩ := bk4 H_F_32
  replace H_F_32 := Lib.hid H_F_32
  obtain ⟨k_S_32_0, k_S_32_1, k_S_32_2, k_S_32_3, f_S_32, l_S_32⟩ := bk4 H_S_32
  replace H_S_32 := Lib.hid H_S_32
  obtain ⟨k_Sz_32_0, k_Sz_32_1, k_Sz_32_2, k_Sz_32_3, f_Sz_32, l_Sz_32⟩ := bk4 H_Sz_32
  replace H_Sz_32 := Lib.hid H_Sz_32
  obtain ⟨k_G_32_0, k_G_32_1, k_G_32_2, k_G_32_3, f_G_32, l_G_32⟩ := bk4 H_G_32
  replace H_G_32 := Lib.hid H_G_32
  obtain ⟨k_C_32_0, k_C_32_1, k_C_32_2, k_C_32_3, f_C_32, l_C_32⟩ := bk4 H_C_32
  replace H_C_32 := Lib.hid H_C_32
  obtain ⟨k_D_32_0, k_D_32_1, k_D_32_2, k_D_32_3, f_D_32, l_D_32⟩ := bk4 H_D_32
  replace H_D_32 := Lib.hid H_D_32
  obtain ⟨k_R_32_0, k_R_32_1, k_R_32_2, k_R_32_3, f_R_32, l_R_32⟩ := bk4 H_R_32
  replace H_R_32 := Lib.hid H_R_32
  obtain ⟨k_Rz_32_0, k_Rz_32_1, k_Rz_32_2, k_Rz_32_3, f_Rz_32, l_Rz_32⟩ := bk4 H_Rz_32
  replace H_Rz_32 := Lib.hid H_Rz_32
  obtain ⟨k_H_32_0, k_H_32_1, k_H_32_2, k_H_32_3, f_H_32, l_H_32⟩ := bk4 H_H_32
  replace H_H_32 := Lib.hid H_H_32
  obtain ⟨k_X_32_0, k_X_32_1, f_X_32, l_X_32⟩ := bk2 H_X_32
  replace H_X_32 := Lib.hid H_X_32
  obtain ⟨k_P_32_0, k_P_32_1, k_P_32_2, k_P_32_3, f_P_32, l_P_32⟩ := bk4 H_P_32
  replace H_P_32 := Lib.hid H_P_32
  have ES := fun W => neqCu_same S1 S2 S3 S4 W
  have EC := fun W => neqCu_same C1 C2 C3 C4 W
  have ER := fun W => neqCu_same R1 R2 R3 R4 W
  have e0 : (o1 != o1) = false := by simp
  have e1 : (o2 != o2) = false := by simp
  have e2 : (o3 != o3) = false := by simp
  have e3 : (o7 != o7) = false := by simp
  have e4 : (o9 != o9) = false := by simp
  have v0 : (N != N) = false := by simp
  have v1 : (A != A) = false := by simp
  have v2 : (V != V) = false := by simp
  go_cut [225] (fun sq wx => sq = .bool false ∧ Below w32.heap.size w32 wx)
  case first =>
    have ho := Fo.out
    clear Fs Fx Fo Fn Fr Fa hk
    cases o3
    · as_aux_lemma =>
        clear ho
        go_wp2_with (first | (have _t := tok33; go_at_call 26; (with_reducible refine ((T33 _).out).mono ?_); rintro e w33 ⟨rfl, hb33⟩; clear tok33 _t; have hz33 := hb33.size; (try simp only [World.size_alloc, World.size_setCell, World.size_drew, World.size_drewN'] at hz33)))
        go_meet
        exact ⟨rfl, by repeat' first | (with_reducible first | apply zRf | assumption | apply zDn | apply zDr | apply zAl | apply zSt | refine zVi (by assumption) ?_ ?_) | go_size⟩
    · obtain rfl := ho rfl
      as_aux_lemma =>
        clear ho
        go_wp2_with (first | (have _t := tok33; go_at_call 26; (with_reducible refine ((T33 _).out).mono ?_); rintro e w33 ⟨rfl, hb33⟩; clear tok33 _t; have hz33 := hb33.size; (try simp only [World.size_alloc, World.size_setCell, World.size_drew, World.size_drewN'] at hz33)))
        go_meet
        exact ⟨rfl, by repeat' first | (with_reducible first | apply zRf | assumption | apply zDn | apply zDr | apply zAl | apply zSt | refine zVi (by assumption) ?_ ?_) | go_size⟩
  case rest =>
    obtain ⟨rfl, hb35⟩ := hcut
    generalize wc = w35 at *
    clear ES EC ER e0 e1 e2 e3 e4 v0 v1 v2 T33 Fo
    clear k_Sz_32_0
    clear k_Sz_32_1
    clear k_Sz_32_2
    clear k_Sz_32_3
    clear f_Sz_32 H_Sz_32
    clear k_Rz_32_0
    clear k_Rz_32_1
    clear k_Rz_32_2
    clear k_Rz_32_3
    clear f_Rz_32 H_Rz_32
    clear k_P_32_0
    clear k_P_32_1
    clear k_P_32_2
    clear k_P_32_3
    clear f_P_32 H_P_32
    have H_F_35 := (hb35.block (w1.heap.size) (blk_lt' H_F_32.out)).trans H_F_32.out
    clear k_F_32_0 k_F_32_1 k_F_32_2 k_F_32_3 f_F_32 H_F_32
    obtain ⟨k_F_35_0, k_F_35_1, k_F_35_2, k_F_35_3, f_F_35, l_F_35⟩ := bk4 H_F_35
    replace H_F_35 := Lib.hid H_F_35
    have H_S_35 := (hb35.block (w3.heap.size) (blk_lt' H_S_32.out)).trans H_S_32.out
    clear k_S_32_0 k_S_32_1 k_S_32_2 k_S_32_3 f_S_32 H_S_32
    obtain ⟨k_S_35_0, k_S_35_1, k_S_35_2, k_S_35_3, f_S_35, l_S_35⟩ := bk4 H_S_35
    replace H_S_35 := Lib.hid H_S_35
    have H_G_35 := (hb35.block (w7.heap.size) (blk_lt' H_G_32.out)).trans H_G_32.out
    clear k_G_32_0 k_G_32_1 k_G_32_2 k_G_32_3 f_G_32 H_G_32
    obtain ⟨k_G_35_0, k_G_35_1, k_G_35_2, k_G_35_3, f_G_35, l_G_35⟩ := bk4 H_G_35
    replace H_G_35 := Lib.hid H_G_35
    have H_C_35 := (hb35.block (w9.heap.size) (blk_lt' H_C_32.out)).trans H_C_32.out
    clear k_C_32_0 k_C_32_1 k_C_32_2 k_C_32_3 f_C_32 H_C_32
    obtain ⟨k_C_35_0, k_C_35_1, k_C_35_2, k_C_35_3, f_C_35, l_C_35⟩ := bk4 H_C_35
    replace H_C_35 := Lib.hid H_C_35
    have H_D_35 := (hb35.block (w11.heap.size) (blk_lt' H_D_32.out)).trans H_D_32.out
    clear k_D_32_0 k_D_32_1 k_D_32_2 k_D_32_3 f_D_32 H_D_32
    obtain ⟨k_D_35_0, k_D_35_1, k_D_35_2, k_D_35_3, f_D_35, l_D_35⟩ := bk4 H_D_35
    replace H_D_35 := Lib.hid H_D_35
    have H_R_35 := (hb35.block (w13.heap.size) (blk_lt' H_R_32.out)).trans H_R_32.out
    clear k_R_32_0 k_R_32_1 k_R_32_2 k_R_32_3 f_R_32 H_R_32
    obtain ⟨k_R_35_0, k_R_35_1, k_R_35_2, k_R_35_3, f_R_35, l_R_35⟩ := bk4 H_R_35
    replace H_R_35 := Lib.hid H_R_35
    have H_H_35 := (hb35.block (w21.heap.size) (blk_lt' H_H_32.out)).trans H_H_32.out
    clear k_H_32_0 k_H_32_1 k_H_32_2 k_H_32_3 f_H_32 H_H_32
    obtain ⟨k_H_35_0, k_H_35_1, k_H_35_2, k_H_35_3, f_H_35, l_H_35⟩ := bk4 H_H_35
    replace H_H_35 := Lib.hid H_H_35
    have H_X_35 := (hb35.block (w21.heap.size + 1) (blk_lt' H_X_32.out)).trans H_X_32.out
    clear k_X_32_0 k_X_32_1 f_X_32 H_X_32
    obtain ⟨k_X_35_0, k_X_35_1, f_X_35, l_X_35⟩ := bk2 H_X_35
    replace H_X_35 := Lib.hid H_X_35
    have hB35 : Below w.heap.size w w35 := below_via hb35 (by assumption) (by first | exact hB32.size | go_size)
    iterate 60 (first | (exact FnCu_21 hB35 H_F_35.out H_S_35.out H_G_35.out H_C_35.out H_D_35.out H_R_35.out H_H_35.out H_X_35.out hk Fs.out Fx.out Fn.out Fr.out Fa.out) | go_values | go_skip | go_guarded | go_step | go_upon | go_back | skip)
end Go.Proofs.YtdcbpgpjiacomaaDoor
