/- A multiple of a point: the program. -/
import Derived.Test.YtgjppinjapdbeaaPtZ3
namespace Go.Proofs.Ytgjppinjapdbeaa
open Go.RowKit
set_option linter.unusedVariables false
set_option maxHeartbeats 16000000
set_option maxRecDepth 20000
set_option linter.unusedSimpArgs false
attribute [local go_sem] openAt openUpon
theorem MultiplePoint_any (A B x y e n : Int) (w : World) (hcv : cvB A B = true) (hA : -1000 ≤ A ∧ A ≤ 1000) (hB : -10000 ≤ B ∧ B ≤ 10000) (hp : ptB A B x y e = true) (hn : -12 ≤ n ∧ n ≤ 12) :
    Calls Try.prog 53 #[.agg #[.int .i64 A, .int .i64 B], .agg #[.int .i64 x, .int .i64 y, .int .i64 e], .int .i64 n] w fun r w' =>
      r = .returned (.tuple #[.agg #[.int .i64 (ptN A x y e n).1, .int .i64 (ptN A x y e n).2.1, .int .i64 (ptN A x y e n).2.2.1], .bool (ptN A x y e n).2.2.2]) ∧ Below w.heap.size w w' := by
  obtain ⟨r1, r2, r3, r4, hr⟩ := pt4 (ptN A x y e n)
  rw [hr]
  have hyb : -3000000 ≤ y ∧ y ≤ 3000000 := by
    rcases pt_cases hA hB hp with ⟨_, rfl, _⟩ | ⟨_, _, h, _⟩
    · omega
    · exact h
  have T1 := fun W : World => Lib.hid (isPoint_any A B x y e W)
  rw [show (cvB A B && ptB A B x y e) = true by rw [hcv, hp]; rfl] at T1
  have T2 := fun W : World => Lib.hid (inside_any n (-12) 12 W)
  rw [show inB n (-12) 12 = true from inB_iff.2 hn] at T2
  clear hcv
  by_cases h0 : n < 0
  · have HR := Lib.hid (show ptM A x (-y) e n.natAbs = (r1, r2, r3, r4) by rw [← hr, ptN]; first | rw [if_pos h0] | rw [if_neg h0])
    have hpm : ptB A B x (-y) e = true := by first | exact hp | exact ptB_neg hp
    obtain ⟨N, hN⟩ : ∃ N : Nat, n.natAbs = N := ⟨_, rfl⟩
    have hNb : N ≤ 12 := by omega
    rw [hN] at HR
    obtain rfl : n = -(N : Int) := by omega
    have TM := fun W : World => multiples_any A B x (-y) e N W hA hB hpm hNb
    have hok := ptM_ok hA hB hpm N
    unfold NewM at TM
    rw [HR.out] at TM hok
    have HOK := Lib.hid hok
    clear hr hp hok
    have tok1 : True := trivial
    have tok2 : True := trivial
    have tok3 : True := trivial
    have tok4 : True := trivial
    have tok5 : True := trivial
    go_enter Try.func53, Try.ntmps53
    go_upto_region 1 with fail
    refine chk (fun W => Below w.heap.size w W ∧ W.heap[w.heap.size]? = some (.cells #[.int .i64 A, .int .i64 B] 31 (0, 0)) ∧ W.heap[w.heap.size + 1]? = some (.cells #[.int .i64 x, .int .i64 y, .int .i64 e] 28 (0, 0)) ∧ W.heap[w.heap.size + 1 + 1]? = some (.cells #[.int .i64 0, .int .i64 0, .int .i64 0] 28 (0, 0))) (by refine ⟨?_, ?_, ?_, ?_⟩ <;> (repeat' first | (with_reducible first | assumption | (apply Ne.symm; assumption) | apply Nat.le_refl | apply Nat.le_add_right | apply zL | apply zRf | apply Wx.box | apply Wx.box4 | apply zWa | apply Wx.drew | apply zWn | apply bx_drew | apply bx_drewN | apply bx_set3 | apply bx_set2 | apply bx_set4 | apply bx_set1) | ((with_reducible apply bx_new); (focus (go_size; done))) | (with_reducible first | apply zOl | apply zFa | apply zDn | apply zDr | apply zAl | apply zSt | refine zVi (by assumption) ?_ ?_) | go_size | omega)) ?_
    rintro w40 ⟨hB40, H_C_40, H_P_40, H_O_40⟩
    obtain ⟨k_C_40_0, k_C_40_1, f_C_40, l_C_40⟩ := bk2 H_C_40
    replace H_C_40 := Lib.hid H_C_40
    obtain ⟨k_P_40_0, k_P_40_1, k_P_40_2, f_P_40, l_P_40⟩ := bk3 H_P_40
    replace H_P_40 := Lib.hid H_P_40
    obtain ⟨k_O_40_0, k_O_40_1, k_O_40_2, f_O_40, l_O_40⟩ := bk3 H_O_40
    replace H_O_40 := Lib.hid H_O_40
    go_upto_region 3 with (first | (have _t := tok1; go_at_call 50; (with_reducible refine ((T1 _).out).mono ?_); rintro e w1 ⟨rfl, hb1⟩; clear tok1 _t; have hz1 := hb1.size; (try simp only [World.size_alloc, World.size_setCell, World.size_drew, World.size_drewN'] at hz1); (try (have kq := cellAt hb1 (w.heap.size) (by go_size); have k1_w_0_0 := kq 0; have k1_w_0_1 := kq 1; clear kq; have f1_w_0 := frozAt hb1 (w.heap.size) (by go_size); simp [go_sem, *] at k1_w_0_0 k1_w_0_1 f1_w_0)); (try have l1_w_0 : w.heap.size < w1.heap.size := by omega); (try (have kq := cellAt hb1 (w.heap.size + 1) (by go_size); have k1_w_1_0 := kq 0; have k1_w_1_1 := kq 1; have k1_w_1_2 := kq 2; clear kq; have f1_w_1 := frozAt hb1 (w.heap.size + 1) (by go_size); simp [go_sem, *] at k1_w_1_0 k1_w_1_1 k1_w_1_2 f1_w_1)); (try have l1_w_1 : w.heap.size + 1 < w1.heap.size := by omega); (try (have kq := cellAt hb1 (w.heap.size + 1 + 1) (by go_size); have k1_w_2_0 := kq 0; have k1_w_2_1 := kq 1; have k1_w_2_2 := kq 2; clear kq; have f1_w_2 := frozAt hb1 (w.heap.size + 1 + 1) (by go_size); simp [go_sem, *] at k1_w_2_0 k1_w_2_1 k1_w_2_2 f1_w_2)); (try have l1_w_2 : w.heap.size + 1 + 1 < w1.heap.size := by omega)) | (go_at_call 37; (with_reducible refine ((T2 _).out).mono ?_); rintro e w' ⟨rfl, rfl⟩))
    have H_C_1 := (hb1.block (w.heap.size) (blk_lt' H_C_40.out)).trans H_C_40.out
    clear k_C_40_0 k_C_40_1 f_C_40 H_C_40
    obtain ⟨k_C_1_0, k_C_1_1, f_C_1, l_C_1⟩ := bk2 H_C_1
    replace H_C_1 := Lib.hid H_C_1
    have H_P_1 := (hb1.block (w.heap.size + 1) (blk_lt' H_P_40.out)).trans H_P_40.out
    clear k_P_40_0 k_P_40_1 k_P_40_2 f_P_40 H_P_40
    obtain ⟨k_P_1_0, k_P_1_1, k_P_1_2, f_P_1, l_P_1⟩ := bk3 H_P_1
    replace H_P_1 := Lib.hid H_P_1
    have H_O_1 := (hb1.block (w.heap.size + 1 + 1) (blk_lt' H_O_40.out)).trans H_O_40.out
    clear k_O_40_0 k_O_40_1 k_O_40_2 f_O_40 H_O_40
    obtain ⟨k_O_1_0, k_O_1_1, k_O_1_2, f_O_1, l_O_1⟩ := bk3 H_O_1
    replace H_O_1 := Lib.hid H_O_1
    have hB1 : Below w.heap.size w w1 := below_via hb1 (by assumption) (by go_size)
    clear T1 T2
    go_upto_region 4 with fail
    go_upto_region 5 with (first | (have _t := tok3; go_at_call 70; refine (opposite_any x y e _ (by omega)).mono ?_; rintro e w3 ⟨rfl, hb3⟩; clear tok3 _t; have hz3 := hb3.size; (try simp only [World.size_alloc, World.size_setCell, World.size_drew, World.size_drewN'] at hz3); (try (have kq := cellAt hb3 (w.heap.size) (by go_size); have k3_w_0_0 := kq 0; have k3_w_0_1 := kq 1; clear kq; have f3_w_0 := frozAt hb3 (w.heap.size) (by go_size); simp [go_sem, *] at k3_w_0_0 k3_w_0_1 f3_w_0)); (try have l3_w_0 : w.heap.size < w3.heap.size := by omega); (try (have kq := cellAt hb3 (w.heap.size + 1) (by go_size); have k3_w_1_0 := kq 0; have k3_w_1_1 := kq 1; have k3_w_1_2 := kq 2; clear kq; have f3_w_1 := frozAt hb3 (w.heap.size + 1) (by go_size); simp [go_sem, *] at k3_w_1_0 k3_w_1_1 k3_w_1_2 f3_w_1)); (try have l3_w_1 : w.heap.size + 1 < w3.heap.size := by omega); (try (have kq := cellAt hb3 (w.heap.size + 1 + 1) (by go_size); have k3_w_2_0 := kq 0; have k3_w_2_1 := kq 1; have k3_w_2_2 := kq 2; clear kq; have f3_w_2 := frozAt hb3 (w.heap.size + 1 + 1) (by go_size); simp [go_sem, *] at k3_w_2_0 k3_w_2_1 k3_w_2_2 f3_w_2)); (try have l3_w_2 : w.heap.size + 1 + 1 < w3.heap.size := by omega); (try clear k1_w_0_0 k1_w_0_1 f1_w_0); (try clear l1_w_0); (try clear k1_w_1_0 k1_w_1_1 k1_w_1_2 f1_w_1); (try clear l1_w_1); (try clear k1_w_2_0 k1_w_2_1 k1_w_2_2 f1_w_2); (try clear l1_w_2); (try clear k2_w_0_0 k2_w_0_1 f2_w_0); (try clear l2_w_0); (try clear k2_w_1_0 k2_w_1_1 k2_w_1_2 f2_w_1); (try clear l2_w_1); (try clear k2_w_2_0 k2_w_2_1 k2_w_2_2 f2_w_2); (try clear l2_w_2)))
    have H_C_3 := (hb3.block (w.heap.size) (blk_lt' H_C_1.out)).trans H_C_1.out
    clear k_C_1_0 k_C_1_1 f_C_1 H_C_1
    obtain ⟨k_C_3_0, k_C_3_1, f_C_3, l_C_3⟩ := bk2 H_C_3
    replace H_C_3 := Lib.hid H_C_3
    have H_P_3 := (hb3.block (w.heap.size + 1) (blk_lt' H_P_1.out)).trans H_P_1.out
    clear k_P_1_0 k_P_1_1 k_P_1_2 f_P_1 H_P_1
    obtain ⟨k_P_3_0, k_P_3_1, k_P_3_2, f_P_3, l_P_3⟩ := bk3 H_P_3
    replace H_P_3 := Lib.hid H_P_3
    have H_O_3 := (hb3.block (w.heap.size + 1 + 1) (blk_lt' H_O_1.out)).trans H_O_1.out
    clear k_O_1_0 k_O_1_1 k_O_1_2 f_O_1 H_O_1
    obtain ⟨k_O_3_0, k_O_3_1, k_O_3_2, f_O_3, l_O_3⟩ := bk3 H_O_3
    replace H_O_3 := Lib.hid H_O_3
    have hB3 : Below w.heap.size w w3 := below_via hb3 (by assumption) (by go_size)
    replace H_C_3 := H_C_3.out
    replace H_P_3 := H_P_3.out
    replace H_O_3 := H_O_3.out
    refine chk (fun W => Below w.heap.size w W ∧ W.heap[w.heap.size]? = some (.cells #[.int .i64 A, .int .i64 B] 31 (0, 0)) ∧ W.heap[w.heap.size + 1]? = some (.cells #[.int .i64 x, .int .i64 (-y), .int .i64 e] 28 (0, 0)) ∧ W.heap[w.heap.size + 1 + 1]? = some (.cells #[.int .i64 0, .int .i64 0, .int .i64 0] 28 (0, 0))) (by refine ⟨?_, ?_, ?_, ?_⟩ <;> (repeat' first | (with_reducible first | assumption | (apply Ne.symm; assumption) | apply Nat.le_refl | apply Nat.le_add_right | apply zL | apply zRf | apply Wx.box | apply Wx.box4 | apply zWa | apply Wx.drew | apply zWn | apply bx_drew | apply bx_drewN | apply bx_set3 | apply bx_set2 | apply bx_set4 | apply bx_set1) | ((with_reducible apply bx_new); (focus (go_size; done))) | (with_reducible first | apply zOl | apply zFa | apply zDn | apply zDr | apply zAl | apply zSt | refine zVi (by assumption) ?_ ?_) | go_size | omega)) ?_
    clear k_C_3_0 k_C_3_1 f_C_3 H_C_3
    clear k_P_3_0 k_P_3_1 k_P_3_2 f_P_3 H_P_3
    clear k_O_3_0 k_O_3_1 k_O_3_2 f_O_3 H_O_3
    clear hB3
    rintro w4 ⟨hB4, H_C_4, H_P_4, H_O_4⟩
    obtain ⟨k_C_4_0, k_C_4_1, f_C_4, l_C_4⟩ := bk2 H_C_4
    replace H_C_4 := Lib.hid H_C_4
    obtain ⟨k_P_4_0, k_P_4_1, k_P_4_2, f_P_4, l_P_4⟩ := bk3 H_P_4
    replace H_P_4 := Lib.hid H_P_4
    obtain ⟨k_O_4_0, k_O_4_1, k_O_4_2, f_O_4, l_O_4⟩ := bk3 H_O_4
    replace H_O_4 := Lib.hid H_O_4
    clear h0 hN hn
    go_upto_region 6 with (first | (have _t := tok5; go_at_call 71; (with_reducible refine ((TM _)).mono ?_); rintro e w5 ⟨v, B5, rfl, hv5, hw5, hb5⟩; clear tok5 _t; have hz5 := hb5.size; (try simp only [World.size_alloc, World.size_setCell, World.size_drew, World.size_drewN'] at hz5)))
    have H_C_5 := (hb5.block (w.heap.size) (blk_lt' H_C_4.out)).trans H_C_4.out
    clear k_C_4_0 k_C_4_1 f_C_4 H_C_4
    obtain ⟨k_C_5_0, k_C_5_1, f_C_5, l_C_5⟩ := bk2 H_C_5
    replace H_C_5 := Lib.hid H_C_5
    have H_P_5 := (hb5.block (w.heap.size + 1) (blk_lt' H_P_4.out)).trans H_P_4.out
    clear k_P_4_0 k_P_4_1 k_P_4_2 f_P_4 H_P_4
    obtain ⟨k_P_5_0, k_P_5_1, k_P_5_2, f_P_5, l_P_5⟩ := bk3 H_P_5
    replace H_P_5 := Lib.hid H_P_5
    have H_O_5 := (hb5.block (w.heap.size + 1 + 1) (blk_lt' H_O_4.out)).trans H_O_4.out
    clear k_O_4_0 k_O_4_1 k_O_4_2 f_O_4 H_O_4
    obtain ⟨k_O_5_0, k_O_5_1, k_O_5_2, f_O_5, l_O_5⟩ := bk3 H_O_5
    replace H_O_5 := Lib.hid H_O_5
    have hB5 : Below w.heap.size w w5 := below_via hb5 (by assumption) (by go_size)
    clear TM
    cases r4
    · have hz : (r1, r2, r3, false) = ((0, 0, 0, false) : P4) := by
        rcases HOK.out with ⟨h, _⟩ | h
        · cases h
        · exact h
      obtain ⟨rfl, rfl, rfl⟩ : r1 = 0 ∧ r2 = 0 ∧ r3 = 0 := by simpa using hz
      go_upto_region 7 with fail
      iterate 40 (first | (with_reducible show bodyPost _ _ _ _ _ _) | (with_reducible refine wp_ret ?_) | go_values | go_skip | go_guarded | go_step | go_upon | go_back | skip)
      refine bodyPost_ret (v := .tuple #[.agg #[.int .i64 0, .int .i64 0, .int .i64 0], .bool false]) (by simp [results, Try.results53, go_sem, k_O_5_0, k_O_5_1, k_O_5_2]) rfl ⟨rfl, ?_⟩
      have HO := H_O_5.out
      (repeat' first | (with_reducible first | assumption | (apply Ne.symm; assumption) | apply Nat.le_refl | apply Nat.le_add_right | apply zL | apply zRf | apply Wx.box | apply Wx.box4 | apply zWa | apply Wx.drew | apply zWn | apply bx_drew | apply bx_drewN | apply bx_set3 | apply bx_set2 | apply bx_set4 | apply bx_set1) | ((with_reducible apply bx_new); (focus (go_size; done))) | (with_reducible first | apply zOl | apply zFa | apply zDn | apply zDr | apply zAl | apply zSt | refine zVi (by assumption) ?_ ?_) | go_size | omega)
    · by_cases hN0 : N = 0
      · exfalso; omega
      · obtain ⟨k, hk⟩ : ∃ k, N = k + 1 := ⟨N - 1, by omega⟩
        obtain ⟨m1, m2, m3⟩ := mlL_at A x (-y) e N k (by omega)
        obtain ⟨g, cap, rfl, c1, c2, c3, d0, d1, d2⟩ := (hv5 rfl).at (i := k) (by omega)
        rw [← hk, HR.out] at m1 m2 m3
        rw [m1] at d0
        rw [m2] at d1
        rw [m3] at d2
        have hk1 : (N : Int) - 1 = k := by omega
        have hk3 : ((N : Int) == 0) = false := by simp; omega
        have hk4 : (k : Int) < N := by omega
        clear hv5 m1 m2 m3
        unfold maxLen at c2
        go_upto_region 8 with fail
        iterate 60 (first | (with_reducible show bodyPost _ _ _ _ _ _) | (with_reducible refine wp_ret ?_) | go_values | go_skip | go_guarded | go_step | go_upon | go_back | skip)
        refine bodyPost_ret (v := .tuple #[.agg #[.int .i64 r1, .int .i64 r2, .int .i64 r3], .bool true]) (by simp [results, Try.results53, go_sem, k_O_5_0, k_O_5_1, k_O_5_2]) rfl ⟨rfl, ?_⟩
        have HO := H_O_5.out
        (repeat' first | (with_reducible first | assumption | (apply Ne.symm; assumption) | apply Nat.le_refl | apply Nat.le_add_right | apply zL | apply zRf | apply Wx.box | apply Wx.box4 | apply zWa | apply Wx.drew | apply zWn | apply bx_drew | apply bx_drewN | apply bx_set3 | apply bx_set2 | apply bx_set4 | apply bx_set1) | ((with_reducible apply bx_new); (focus (go_size; done))) | (with_reducible first | apply zOl | apply zFa | apply zDn | apply zDr | apply zAl | apply zSt | refine zVi (by assumption) ?_ ?_) | go_size | omega)
  · have HR := Lib.hid (show ptM A x y e n.natAbs = (r1, r2, r3, r4) by rw [← hr, ptN]; first | rw [if_pos h0] | rw [if_neg h0])
    have hpm : ptB A B x y e = true := by first | exact hp | exact ptB_neg hp
    obtain ⟨N, hN⟩ : ∃ N : Nat, n.natAbs = N := ⟨_, rfl⟩
    have hNb : N ≤ 12 := by omega
    rw [hN] at HR
    obtain rfl : n = (N : Int) := by omega
    have TM := fun W : World => multiples_any A B x y e N W hA hB hpm hNb
    have hok := ptM_ok hA hB hpm N
    unfold NewM at TM
    rw [HR.out] at TM hok
    have HOK := Lib.hid hok
    clear hr hp hok
    have tok1 : True := trivial
    have tok2 : True := trivial
    have tok3 : True := trivial
    have tok4 : True := trivial
    have tok5 : True := trivial
    go_enter Try.func53, Try.ntmps53
    go_upto_region 1 with fail
    refine chk (fun W => Below w.heap.size w W ∧ W.heap[w.heap.size]? = some (.cells #[.int .i64 A, .int .i64 B] 31 (0, 0)) ∧ W.heap[w.heap.size + 1]? = some (.cells #[.int .i64 x, .int .i64 y, .int .i64 e] 28 (0, 0)) ∧ W.heap[w.heap.size + 1 + 1]? = some (.cells #[.int .i64 0, .int .i64 0, .int .i64 0] 28 (0, 0))) (by refine ⟨?_, ?_, ?_, ?_⟩ <;> (repeat' first | (with_reducible first | assumption | (apply Ne.symm; assumption) | apply Nat.le_refl | apply Nat.le_add_right | apply zL | apply zRf | apply Wx.box | apply Wx.box4 | apply zWa | apply Wx.drew | apply zWn | apply bx_drew | apply bx_drewN | apply bx_set3 | apply bx_set2 | apply bx_set4 | apply bx_set1) | ((with_reducible apply bx_new); (focus (go_size; done))) | (with_reducible first | apply zOl | apply zFa | apply zDn | apply zDr | apply zAl | apply zSt | refine zVi (by assumption) ?_ ?_) | go_size | omega)) ?_
    rintro w40 ⟨hB40, H_C_40, H_P_40, H_O_40⟩
    obtain ⟨k_C_40_0, k_C_40_1, f_C_40, l_C_40⟩ := bk2 H_C_40
    replace H_C_40 := Lib.hid H_C_40
    obtain ⟨k_P_40_0, k_P_40_1, k_P_40_2, f_P_40, l_P_40⟩ := bk3 H_P_40
    replace H_P_40 := Lib.hid H_P_40
    obtain ⟨k_O_40_0, k_O_40_1, k_O_40_2, f_O_40, l_O_40⟩ := bk3 H_O_40
    replace H_O_40 := Lib.hid H_O_40
    go_upto_region 3 with (first | (have _t := tok1; go_at_call 50; (with_reducible refine ((T1 _).out).mono ?_); rintro e w1 ⟨rfl, hb1⟩; clear tok1 _t; have hz1 := hb1.size; (try simp only [World.size_alloc, World.size_setCell, World.size_drew, World.size_drewN'] at hz1); (try (have kq := cellAt hb1 (w.heap.size) (by go_size); have k1_w_0_0 := kq 0; have k1_w_0_1 := kq 1; clear kq; have f1_w_0 := frozAt hb1 (w.heap.size) (by go_size); simp [go_sem, *] at k1_w_0_0 k1_w_0_1 f1_w_0)); (try have l1_w_0 : w.heap.size < w1.heap.size := by omega); (try (have kq := cellAt hb1 (w.heap.size + 1) (by go_size); have k1_w_1_0 := kq 0; have k1_w_1_1 := kq 1; have k1_w_1_2 := kq 2; clear kq; have f1_w_1 := frozAt hb1 (w.heap.size + 1) (by go_size); simp [go_sem, *] at k1_w_1_0 k1_w_1_1 k1_w_1_2 f1_w_1)); (try have l1_w_1 : w.heap.size + 1 < w1.heap.size := by omega); (try (have kq := cellAt hb1 (w.heap.size + 1 + 1) (by go_size); have k1_w_2_0 := kq 0; have k1_w_2_1 := kq 1; have k1_w_2_2 := kq 2; clear kq; have f1_w_2 := frozAt hb1 (w.heap.size + 1 + 1) (by go_size); simp [go_sem, *] at k1_w_2_0 k1_w_2_1 k1_w_2_2 f1_w_2)); (try have l1_w_2 : w.heap.size + 1 + 1 < w1.heap.size := by omega)) | (go_at_call 37; (with_reducible refine ((T2 _).out).mono ?_); rintro e w' ⟨rfl, rfl⟩))
    have H_C_1 := (hb1.block (w.heap.size) (blk_lt' H_C_40.out)).trans H_C_40.out
    clear k_C_40_0 k_C_40_1 f_C_40 H_C_40
    obtain ⟨k_C_1_0, k_C_1_1, f_C_1, l_C_1⟩ := bk2 H_C_1
    replace H_C_1 := Lib.hid H_C_1
    have H_P_1 := (hb1.block (w.heap.size + 1) (blk_lt' H_P_40.out)).trans H_P_40.out
    clear k_P_40_0 k_P_40_1 k_P_40_2 f_P_40 H_P_40
    obtain ⟨k_P_1_0, k_P_1_1, k_P_1_2, f_P_1, l_P_1⟩ := bk3 H_P_1
    replace H_P_1 := Lib.hid H_P_1
    have H_O_1 := (hb1.block (w.heap.size + 1 + 1) (blk_lt' H_O_40.out)).trans H_O_40.out
    clear k_O_40_0 k_O_40_1 k_O_40_2 f_O_40 H_O_40
    obtain ⟨k_O_1_0, k_O_1_1, k_O_1_2, f_O_1, l_O_1⟩ := bk3 H_O_1
    replace H_O_1 := Lib.hid H_O_1
    have hB1 : Below w.heap.size w w1 := below_via hb1 (by assumption) (by go_size)
    clear T1 T2
    go_upto_region 5 with fail
    replace H_C_1 := H_C_1.out
    replace H_P_1 := H_P_1.out
    replace H_O_1 := H_O_1.out
    refine chk (fun W => Below w.heap.size w W ∧ W.heap[w.heap.size]? = some (.cells #[.int .i64 A, .int .i64 B] 31 (0, 0)) ∧ W.heap[w.heap.size + 1]? = some (.cells #[.int .i64 x, .int .i64 y, .int .i64 e] 28 (0, 0)) ∧ W.heap[w.heap.size + 1 + 1]? = some (.cells #[.int .i64 0, .int .i64 0, .int .i64 0] 28 (0, 0))) (by refine ⟨?_, ?_, ?_, ?_⟩ <;> (repeat' first | (with_reducible first | assumption | (apply Ne.symm; assumption) | apply Nat.le_refl | apply Nat.le_add_right | apply zL | apply zRf | apply Wx.box | apply Wx.box4 | apply zWa | apply Wx.drew | apply zWn | apply bx_drew | apply bx_drewN | apply bx_set3 | apply bx_set2 | apply bx_set4 | apply bx_set1) | ((with_reducible apply bx_new); (focus (go_size; done))) | (with_reducible first | apply zOl | apply zFa | apply zDn | apply zDr | apply zAl | apply zSt | refine zVi (by assumption) ?_ ?_) | go_size | omega)) ?_
    clear k_C_1_0 k_C_1_1 f_C_1 H_C_1
    clear k_P_1_0 k_P_1_1 k_P_1_2 f_P_1 H_P_1
    clear k_O_1_0 k_O_1_1 k_O_1_2 f_O_1 H_O_1
    clear hB1
    rintro w4 ⟨hB4, H_C_4, H_P_4, H_O_4⟩
    obtain ⟨k_C_4_0, k_C_4_1, f_C_4, l_C_4⟩ := bk2 H_C_4
    replace H_C_4 := Lib.hid H_C_4
    obtain ⟨k_P_4_0, k_P_4_1, k_P_4_2, f_P_4, l_P_4⟩ := bk3 H_P_4
    replace H_P_4 := Lib.hid H_P_4
    obtain ⟨k_O_4_0, k_O_4_1, k_O_4_2, f_O_4, l_O_4⟩ := bk3 H_O_4
    replace H_O_4 := Lib.hid H_O_4
    clear h0 hN hn
    go_upto_region 6 with (first | (have _t := tok5; go_at_call 71; (with_reducible refine ((TM _)).mono ?_); rintro e w5 ⟨v, B5, rfl, hv5, hw5, hb5⟩; clear tok5 _t; have hz5 := hb5.size; (try simp only [World.size_alloc, World.size_setCell, World.size_drew, World.size_drewN'] at hz5)))
    have H_C_5 := (hb5.block (w.heap.size) (blk_lt' H_C_4.out)).trans H_C_4.out
    clear k_C_4_0 k_C_4_1 f_C_4 H_C_4
    obtain ⟨k_C_5_0, k_C_5_1, f_C_5, l_C_5⟩ := bk2 H_C_5
    replace H_C_5 := Lib.hid H_C_5
    have H_P_5 := (hb5.block (w.heap.size + 1) (blk_lt' H_P_4.out)).trans H_P_4.out
    clear k_P_4_0 k_P_4_1 k_P_4_2 f_P_4 H_P_4
    obtain ⟨k_P_5_0, k_P_5_1, k_P_5_2, f_P_5, l_P_5⟩ := bk3 H_P_5
    replace H_P_5 := Lib.hid H_P_5
    have H_O_5 := (hb5.block (w.heap.size + 1 + 1) (blk_lt' H_O_4.out)).trans H_O_4.out
    clear k_O_4_0 k_O_4_1 k_O_4_2 f_O_4 H_O_4
    obtain ⟨k_O_5_0, k_O_5_1, k_O_5_2, f_O_5, l_O_5⟩ := bk3 H_O_5
    replace H_O_5 := Lib.hid H_O_5
    have hB5 : Below w.heap.size w w5 := below_via hb5 (by assumption) (by go_size)
    clear TM
    cases r4
    · have hz : (r1, r2, r3, false) = ((0, 0, 0, false) : P4) := by
        rcases HOK.out with ⟨h, _⟩ | h
        · cases h
        · exact h
      obtain ⟨rfl, rfl, rfl⟩ : r1 = 0 ∧ r2 = 0 ∧ r3 = 0 := by simpa using hz
      go_upto_region 7 with fail
      iterate 40 (first | (with_reducible show bodyPost _ _ _ _ _ _) | (with_reducible refine wp_ret ?_) | go_values | go_skip | go_guarded | go_step | go_upon | go_back | skip)
      refine bodyPost_ret (v := .tuple #[.agg #[.int .i64 0, .int .i64 0, .int .i64 0], .bool false]) (by simp [results, Try.results53, go_sem, k_O_5_0, k_O_5_1, k_O_5_2]) rfl ⟨rfl, ?_⟩
      have HO := H_O_5.out
      (repeat' first | (with_reducible first | assumption | (apply Ne.symm; assumption) | apply Nat.le_refl | apply Nat.le_add_right | apply zL | apply zRf | apply Wx.box | apply Wx.box4 | apply zWa | apply Wx.drew | apply zWn | apply bx_drew | apply bx_drewN | apply bx_set3 | apply bx_set2 | apply bx_set4 | apply bx_set1) | ((with_reducible apply bx_new); (focus (go_size; done))) | (with_reducible first | apply zOl | apply zFa | apply zDn | apply zDr | apply zAl | apply zSt | refine zVi (by assumption) ?_ ?_) | go_size | omega)
    · by_cases hN0 : N = 0
      · subst hN0
        obtain ⟨rfl, rfl, rfl⟩ : 0 = r1 ∧ 0 = r2 ∧ 0 = r3 := by have := HR.out; simpa [ptM] using this
        go_upto_region 7 with fail
        iterate 40 (first | (with_reducible show bodyPost _ _ _ _ _ _) | (with_reducible refine wp_ret ?_) | go_values | go_skip | go_guarded | go_step | go_upon | go_back | skip)
        refine bodyPost_ret (v := .tuple #[.agg #[.int .i64 0, .int .i64 0, .int .i64 0], .bool true]) (by simp [results, Try.results53, go_sem, k_O_5_0, k_O_5_1, k_O_5_2]) rfl ⟨rfl, ?_⟩
        have HO := H_O_5.out
        (repeat' first | (with_reducible first | assumption | (apply Ne.symm; assumption) | apply Nat.le_refl | apply Nat.le_add_right | apply zL | apply zRf | apply Wx.box | apply Wx.box4 | apply zWa | apply Wx.drew | apply zWn | apply bx_drew | apply bx_drewN | apply bx_set3 | apply bx_set2 | apply bx_set4 | apply bx_set1) | ((with_reducible apply bx_new); (focus (go_size; done))) | (with_reducible first | apply zOl | apply zFa | apply zDn | apply zDr | apply zAl | apply zSt | refine zVi (by assumption) ?_ ?_) | go_size | omega)
      · obtain ⟨k, hk⟩ : ∃ k, N = k + 1 := ⟨N - 1, by omega⟩
        obtain ⟨m1, m2, m3⟩ := mlL_at A x y e N k (by omega)
        obtain ⟨g, cap, rfl, c1, c2, c3, d0, d1, d2⟩ := (hv5 rfl).at (i := k) (by omega)
        rw [← hk, HR.out] at m1 m2 m3
        rw [m1] at d0
        rw [m2] at d1
        rw [m3] at d2
        have hk1 : (N : Int) - 1 = k := by omega
        have hk3 : ((N : Int) == 0) = false := by simp; omega
        have hk4 : (k : Int) < N := by omega
        clear hv5 m1 m2 m3
        unfold maxLen at c2
        go_upto_region 8 with fail
        iterate 60 (first | (with_reducible show bodyPost _ _ _ _ _ _) | (with_reducible refine wp_ret ?_) | go_values | go_skip | go_guarded | go_step | go_upon | go_back | skip)
        refine bodyPost_ret (v := .tuple #[.agg #[.int .i64 r1, .int .i64 r2, .int .i64 r3], .bool true]) (by simp [results, Try.results53, go_sem, k_O_5_0, k_O_5_1, k_O_5_2]) rfl ⟨rfl, ?_⟩
        have HO := H_O_5.out
        (repeat' first | (with_reducible first | assumption | (apply Ne.symm; assumption) | apply Nat.le_refl | apply Nat.le_add_right | apply zL | apply zRf | apply Wx.box | apply Wx.box4 | apply zWa | apply Wx.drew | apply zWn | apply bx_drew | apply bx_drewN | apply bx_set3 | apply bx_set2 | apply bx_set4 | apply bx_set1) | ((with_reducible apply bx_new); (focus (go_size; done))) | (with_reducible first | apply zOl | apply zFa | apply zDn | apply zDr | apply zAl | apply zSt | refine zVi (by assumption) ?_ ?_) | go_size | omega)
end Go.Proofs.Ytgjppinjapdbeaa
