/- RationalRoots: the walk of the law. -/
import Derived.Test.YteaehbiglhoddaaCuL
import Derived.Test.YteaehbiglhoddaaToL
namespace Go.Proofs.Yteaehbiglhoddaa
open Go.RowKit
set_option linter.unusedVariables false
set_option maxHeartbeats 4000000
set_option maxRecDepth 20000
set_option linter.unusedSimpArgs false
theorem Below.two {A B C : World} (h : Below A.heap.size A B) (k : Below B.heap.size B C) : Below A.heap.size A C := h.trans (k.mono h.size)
theorem keepB {W V : World} {b : Nat} {X : Obj} (h : Below W.heap.size W V) (e : W.heap[b]? = some X) : V.heap[b]? = some X := (h.block b (Array.getElem?_eq_some_iff.1 e).1).trans e
theorem FnExactRationalRoots_any (a b c d : Int) (w : World) : Calls Try.prog 5 #[.agg #[.int .i64 a, .int .i64 b, .int .i64 c, .int .i64 d]] w fun e w' => e = .returned (.bool true) ∧ Below w.heap.size w w' := by
  have CS := fun W : World => Lib.hid (sRationalRoots_any a b c d W)
  have CI := fun W : World => Lib.hid (RationalRoots_any a b c d W)
  unfold NewQ at CS CI
  have hzl := rrL_len a b c d
  obtain ⟨n, hn⟩ : ∃ n, (rrL a b c d).length = n := ⟨_, rfl⟩
  obtain ⟨zs, hz⟩ : ∃ z, flat (rrL a b c d) = z := ⟨_, rfl⟩
  rw [hn, hz] at CS CI
  rw [hn] at hzl
  clear hn hz
  generalize cuB a b c d = ok at *
  have hbb : (ok != ok) = false := by simp
  have hn0 : decide ((1 : Int) + 2 * (n : Int) < 0) = false := by simp; omega
  have hqq : ((1 : Int) + 2 * (n : Int) != (1 : Int) + 2 * (n : Int)) = false := by simp
  have tok1 : True := trivial
  have tok2 : True := trivial
  have tok3 : True := trivial
  have tok4 : True := trivial
  have tok5 : True := trivial
  have tok6 : True := trivial
  have tok7 : True := trivial
  have tok8 : True := trivial
  have tok9 : True := trivial
  have tok10 : True := trivial
  have tok11 : True := trivial
  have tok12 : True := trivial
  have tok13 : True := trivial
  go_enter Try.func5, Try.ntmps5
  go_upto_region 1 with fail
  refine chk (fun W => Below w.heap.size w W ∧ W.heap[w.heap.size]? = some (.cells #[.int .i64 a, .int .i64 b, .int .i64 c, .int .i64 d] 23 (0, 0))) (by refine ⟨?_, ?_⟩ <;> (repeat' first | (with_reducible first | assumption | (apply Ne.symm; assumption) | apply Nat.le_refl | apply Nat.le_add_right | apply zL | apply zRf | apply Wx.box | apply Wx.box4 | apply zWa | apply Wx.drew | apply zWn | apply bx_drew | apply bx_drewN | apply bx_set3 | apply bx_set2 | apply bx_set4 | apply bx_set1) | ((with_reducible apply bx_new); (focus (go_size; done))) | (with_reducible first | apply zOl | apply zFa | apply zDn | apply zDr | apply zAl | apply zSt | refine zVi (by assumption) ?_ ?_) | go_size | omega)) ?_
  rintro w20 ⟨hB20, H_Q_20⟩
  obtain ⟨k_Q_20_0, k_Q_20_1, k_Q_20_2, k_Q_20_3, f_Q_20, l_Q_20⟩ := bk4 H_Q_20
  replace H_Q_20 := Lib.hid H_Q_20
  go_upto_region 2 with (first | (have _t := tok1; go_at_call 7; refine (toCubic_any _ _ _ _ _).mono ?_; rintro e w1 ⟨rfl, hb1⟩; clear tok1 _t; have hz1 := hb1.size; (try simp only [World.size_alloc, World.size_setCell, World.size_drew, World.size_drewN'] at hz1)) | (have _t := tok2; go_at_call 12; (with_reducible refine ((CS _).out).mono ?_); rintro e w2 ⟨u1, B1, rfl, hu1, hB1, hb2⟩; clear tok2 _t; have hz2 := hb2.size; (try simp only [World.size_alloc, World.size_setCell, World.size_drew, World.size_drewN'] at hz2)))
  have hQ2 := keepB (Below.two hb1 hb2) H_Q_20.out
  have hW2 : Below w.heap.size w w2 := below_via (Below.two hb1 hb2) hB20 (by have := hB20.size; omega)
  replace H_Q_20 := H_Q_20.out
  refine chk (fun W => Below w.heap.size w W ∧ W.heap[w.heap.size]? = some (.cells #[.int .i64 a, .int .i64 b, .int .i64 c, .int .i64 d] 23 (0, 0)) ∧ w2 = W) (by refine ⟨?_, ?_, ?_⟩ <;> (repeat' first | (with_reducible first | assumption | (apply Ne.symm; assumption) | apply Nat.le_refl | apply Nat.le_add_right | apply zL | apply zRf | apply Wx.box | apply Wx.box4 | apply zWa | apply Wx.drew | apply zWn | apply bx_drew | apply bx_drewN | apply bx_set3 | apply bx_set2 | apply bx_set4 | apply bx_set1) | ((with_reducible apply bx_new); (focus (go_size; done))) | (with_reducible first | apply zOl | apply zFa | apply zDn | apply zDr | apply zAl | apply zSt | refine zVi (by assumption) ?_ ?_) | go_size | omega)) ?_
  clear k_Q_20_0 k_Q_20_1 k_Q_20_2 k_Q_20_3 f_Q_20 H_Q_20
  clear hB20
  rintro w3 ⟨hB3, H_Q_3, HE⟩
  obtain ⟨k_Q_3_0, k_Q_3_1, k_Q_3_2, k_Q_3_3, f_Q_3, l_Q_3⟩ := bk4 H_Q_3
  replace H_Q_3 := Lib.hid H_Q_3
  subst HE
  have hlQ2 := blk_lt' hQ2
  clear hQ2 hW2 hb1
  obtain ⟨a1, c1, rfl⟩ := hu1.shape
  have hx1 := hu1
  clear hu1
  go_upto_region 3 with (first | (have _t := tok4; go_at_call 7; refine (toCubic_any _ _ _ _ _).mono ?_; rintro e w4 ⟨rfl, hb4⟩; clear tok4 _t; have hz4 := hb4.size; (try simp only [World.size_alloc, World.size_setCell, World.size_drew, World.size_drewN'] at hz4)) | (have _t := tok5; go_at_call 13; (with_reducible refine ((CI _).out).mono ?_); rintro e w5 ⟨u2, B2, rfl, hu2, hB2, hb5⟩; clear tok5 _t; have hz5 := hb5.size; (try simp only [World.size_alloc, World.size_setCell, World.size_drew, World.size_drewN'] at hz5)))
  have hb25 := Below.two hb4 hb5
  have hQ5 := keepB hb25 H_Q_3.out
  have hW5 : Below w.heap.size w w5 := below_via hb25 hB3 (by have := hB3.size; omega)
  have hx15 := hx1.via hb25
  have s25 := hb25.size
  have HU := Lib.hid hu2
  obtain ⟨a2, c2, rfl⟩ := hu2.shape
  have hx2 := hu2
  clear hu2 hb4 hb5
  replace H_Q_3 := H_Q_3.out
  refine chk (fun W => Below w.heap.size w W ∧ W.heap[w.heap.size]? = some (.cells #[.int .i64 a, .int .i64 b, .int .i64 c, .int .i64 d] 23 (0, 0)) ∧ w5 = W) (by refine ⟨?_, ?_, ?_⟩ <;> (repeat' first | (with_reducible first | assumption | (apply Ne.symm; assumption) | apply Nat.le_refl | apply Nat.le_add_right | apply zL | apply zRf | apply Wx.box | apply Wx.box4 | apply zWa | apply Wx.drew | apply zWn | apply bx_drew | apply bx_drewN | apply bx_set3 | apply bx_set2 | apply bx_set4 | apply bx_set1) | ((with_reducible apply bx_new); (focus (go_size; done))) | (with_reducible first | apply zOl | apply zFa | apply zDn | apply zDr | apply zAl | apply zSt | refine zVi (by assumption) ?_ ?_) | go_size | omega)) ?_
  clear k_Q_3_0 k_Q_3_1 k_Q_3_2 k_Q_3_3 f_Q_3 H_Q_3
  clear hB3
  rintro w6 ⟨hB6, H_Q_6, HE⟩
  obtain ⟨k_Q_6_0, k_Q_6_1, k_Q_6_2, k_Q_6_3, f_Q_6, l_Q_6⟩ := bk4 H_Q_6
  replace H_Q_6 := Lib.hid H_Q_6
  subst HE
  clear hQ5 hW5
  have hx16 := hx15
  go_upto_region 6 with (first | (have _t := tok7; go_at_call 14; refine (eqFractionS_same hx2 hx16 (by omega)).mono ?_; rintro e w7 ⟨rfl, hb7⟩; clear tok7 _t; have hz7 := hb7.size; (try simp only [World.size_alloc, World.size_setCell, World.size_drew, World.size_drewN'] at hz7)))
  have H_Q_7 := (hb7.block (w.heap.size) (blk_lt' H_Q_6.out)).trans H_Q_6.out
  clear k_Q_6_0 k_Q_6_1 k_Q_6_2 k_Q_6_3 f_Q_6 H_Q_6
  obtain ⟨k_Q_7_0, k_Q_7_1, k_Q_7_2, k_Q_7_3, f_Q_7, l_Q_7⟩ := bk4 H_Q_7
  replace H_Q_7 := Lib.hid H_Q_7
  have hB7 : Below w.heap.size w w7 := below_via hb7 (by assumption) (by go_size)
  have HU2 := Lib.hid (HU.out.via hb7)
  have hx17 := hx16.via hb7
  have s57 := hb7.size
  have hQ7 := H_Q_7.out
  have hap := hx2.apart
  have hfr : ∀ i, i < w2.heap.size → some i ≠ Value.ownBlock (.slice a2 n c2) := fun i hi h => by
    have := hap i h
    have := hz4
    omega
  clear hap
  have hl2 : w.heap.size < w2.heap.size := hlQ2
  go_upto_region 8 with (first | (go_at_call 15; (with_reducible refine ((markFractionS_any HU2.out (by omega) (by omega) (by omega))).mono ?_); rintro e w8 ⟨rfl, hmk, hgr⟩))
  have hold : ∀ i, i < w2.heap.size → w8.heap[i]? = w7.heap[i]? := fun i hi => hgr.block i (by omega) (hfr i hi)
  have h27 : Below w2.heap.size w2 w7 := Below.two hb25 hb7
  have hk8 : ∀ i, i < w2.heap.size → w8.heap[i]? = w2.heap[i]? := fun i hi => (hold i hi).trans (h27.block i hi)
  have hx18 := hx1.keep (Nat.le_trans h27.size hgr.size) (fun i hi _ => hk8 i hi)
  have hB8 : Below w.heap.size w w8 := hB7.grown hgr hB7.size (fun k e => by
    rcases Nat.lt_or_ge k w2.heap.size with h | h
    · exact absurd e.symm (hfr k h)
    · omega)
  have hQ8 := (hold w.heap.size hl2).trans hQ7
  have hx8 := hmk
  clear hold hk8 hfr hgr hmk h27 hx1 hx2 hx15 hx16 hx17 HU HU2 hQ7 hb25 hb7
  replace H_Q_7 := H_Q_7.out
  refine chk (fun W => Below w.heap.size w W ∧ W.heap[w.heap.size]? = some (.cells #[.int .i64 a, .int .i64 b, .int .i64 c, .int .i64 d] 23 (0, 0)) ∧ w8 = W) (by refine ⟨?_, ?_, ?_⟩ <;> (repeat' first | (with_reducible first | assumption | (apply Ne.symm; assumption) | apply Nat.le_refl | apply Nat.le_add_right | apply zL | apply zRf | apply Wx.box | apply Wx.box4 | apply zWa | apply Wx.drew | apply zWn | apply bx_drew | apply bx_drewN | apply bx_set3 | apply bx_set2 | apply bx_set4 | apply bx_set1) | ((with_reducible apply bx_new); (focus (go_size; done))) | (with_reducible first | apply zOl | apply zFa | apply zDn | apply zDr | apply zAl | apply zSt | refine zVi (by assumption) ?_ ?_) | go_size | omega)) ?_
  clear k_Q_7_0 k_Q_7_1 k_Q_7_2 k_Q_7_3 f_Q_7 H_Q_7
  clear hB7
  rintro w14 ⟨hB14, H_Q_14, HE⟩
  obtain ⟨k_Q_14_0, k_Q_14_1, k_Q_14_2, k_Q_14_3, f_Q_14, l_Q_14⟩ := bk4 H_Q_14
  replace H_Q_14 := Lib.hid H_Q_14
  subst HE
  clear hQ8 hB8
  go_upto_region 13 with (first | (have _t := tok9; go_at_call 16; refine (heldFractionS_any hx8 (by omega) (by omega) (by omega)).mono ?_; rintro e w9 ⟨rfl, hb9⟩; clear tok9 _t; have hz9 := hb9.size; (try simp only [World.size_alloc, World.size_setCell, World.size_drew, World.size_drewN'] at hz9)))
  have H_Q_9 := (hb9.block (w.heap.size) (blk_lt' H_Q_14.out)).trans H_Q_14.out
  clear k_Q_14_0 k_Q_14_1 k_Q_14_2 k_Q_14_3 f_Q_14 H_Q_14
  obtain ⟨k_Q_9_0, k_Q_9_1, k_Q_9_2, k_Q_9_3, f_Q_9, l_Q_9⟩ := bk4 H_Q_9
  replace H_Q_9 := Lib.hid H_Q_9
  have hB9 : Below w.heap.size w w9 := below_via hb9 (by assumption) (by go_size)
  have hx19 := hx18.via hb9
  have hx89 := hx8.via hb9
  go_upto_region 14 with (first | (have _t := tok10; go_at_call 7; refine (toCubic_any _ _ _ _ _).mono ?_; rintro e w10 ⟨rfl, hb10⟩; clear tok10 _t; have hz10 := hb10.size; (try simp only [World.size_alloc, World.size_setCell, World.size_drew, World.size_drewN'] at hz10)) | (have _t := tok11; go_at_call 13; (with_reducible refine ((CI _).out).mono ?_); rintro e w11 ⟨u3, B3, rfl, hu3, hB3, hb11⟩; clear tok11 _t; have hz11 := hb11.size; (try simp only [World.size_alloc, World.size_setCell, World.size_drew, World.size_drewN'] at hz11)))
  have hb911 := Below.two hb10 hb11
  have hW11 : Below w.heap.size w w11 := below_via hb911 hB9 (by have := hB9.size; omega)
  have hx112 := hx19.via hb911
  have hx812 := hx89.via hb911
  obtain ⟨a3, c3, rfl⟩ := hu3.shape
  have hx3 := hu3
  clear hu3
  go_wp2_with (first | (have _t := tok12; go_at_call 14; refine (eqFractionS_same hx3 hx112 (by omega)).mono ?_; rintro e w12 ⟨rfl, hb12⟩; clear tok12 _t; have hz12 := hb12.size; (try simp only [World.size_alloc, World.size_setCell, World.size_drew, World.size_drewN'] at hz12)) | (have _t := tok13; go_at_call 16; refine (heldFractionS_any (hx812.via hb12) (by omega) (by omega) (by omega)).mono ?_; rintro e w13 ⟨rfl, hb13⟩; clear tok13 _t; have hz13 := hb13.size; (try simp only [World.size_alloc, World.size_setCell, World.size_drew, World.size_drewN'] at hz13)))
  go_ret
  exact ⟨rfl, below_via hb13 (below_via hb12 hW11 (by have := hW11.size; omega)) (by have := hW11.size; have := hb12.size; omega)⟩
end Go.Proofs.Yteaehbiglhoddaa
