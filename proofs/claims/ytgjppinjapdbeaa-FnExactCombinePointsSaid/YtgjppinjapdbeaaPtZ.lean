/- Multiples of points and sums of multiples: the reference. -/
import Derived.Test.YtgjppinjapdbeaaPtV
import Derived.Test.YtgjppinjapdbeaaPtM
import Derived.Test.YtgjppinjapdbeaaCert
import Derived.Test.YtgjppinjapdbeaaTup
namespace Go.Proofs.Ytgjppinjapdbeaa
open Go.RowKit
set_option linter.unusedVariables false
set_option maxHeartbeats 2000000
set_option maxRecDepth 20000
set_option linter.unusedSimpArgs false
attribute [local go_sem] openAt openUpon
theorem bx_set3 {W : World} {g : Nat} {u0 u1 u2 v0 v1 v2 : Value} {T : TypeId} (h : W.heap[g]? = some (.cells #[u0, u1, u2] T)) : (((W.setCell ⟨g, 0, none⟩ v0).setCell ⟨g, 1, none⟩ v1).setCell ⟨g, 2, none⟩ v2).heap[g]? = some (.cells #[v0, v1, v2] T) := by
  simpa using blk_set (o := 2) (v := v2) (blk_set (o := 1) (v := v1) (blk_set (o := 0) (v := v0) h))
theorem ptMinus_any (x y e : Int) (w : World) (hy : -9223372036854775807 ≤ y ∧ y ≤ 9223372036854775807) : Calls Try.prog 42 #[.agg #[.int .i64 x, .int .i64 y, .int .i64 e]] w fun r w' =>
    r = .returned (.agg #[.int .i64 x, .int .i64 (-y), .int .i64 e]) ∧ Below w.heap.size w w' := by
  go_enter Try.func42, Try.ntmps42
  go_wp2_with fail
  refine bodyPost_ret (v := _) (by simp [results, Try.results42, go_sem, *]) rfl ⟨rfl, ?_⟩
  repeat' first | (with_reducible first | apply zRf | assumption | apply zDn | apply zDr | apply zAl | apply zSt | refine zVi (by assumption) ?_ ?_) | go_size
theorem ptM_step {A x y e : Int} {k : Nat} (h : (ptM A x y e k).2.2.2 = true) : ptM A x y e (k + 1) = ptS A (ptM A x y e k).1 (ptM A x y e k).2.1 (ptM A x y e k).2.2.1 x y e := by
  show (if _ then _ else _) = _
  rw [if_pos h]
theorem ptM_out {A B x y e : Int} {k : Nat} (hA : -1000 ≤ A ∧ A ≤ 1000) (hB : -10000 ≤ B ∧ B ≤ 10000) (hp : ptB A B x y e = true) (h : (ptM A x y e k).2.2.2 = false) (j : Nat) (hj : k ≤ j) : ptM A x y e j = (0, 0, 0, false) := by
  by_cases hk : k = j
  · subst hk
    rcases ptM_ok hA hB hp k with ⟨h1, _⟩ | h1
    · rw [h] at h1; cases h1
    · exact h1
  · exact ptM_no h j (by omega)
theorem pt4 (r : P4) : ∃ a b c d, r = (a, b, c, d) := ⟨_, _, _, _, rfl⟩
/-- the loop's state: k sums are done, all of them points -/
def PtRel (w w4 : World) (A B x y e : Int) (N : Nat) (nv : Value) (wr : World) : Prop := ∃ (k : Nat) (a b c : Int), nv = .int .i64 ((N : Int) - k) ∧ k ≤ N ∧ ptM A x y e k = (a, b, c, true) ∧
  wr.heap[w.heap.size]? = some (.cells #[.int .i64 A, .int .i64 B] 31 (0, 0)) ∧ wr.heap[w.heap.size + 1]? = some (.cells #[.int .i64 x, .int .i64 y, .int .i64 e] 28 (0, 0)) ∧
  wr.heap[w.heap.size + 1 + 1]? = some (.cells #[.int .i64 0, .int .i64 0, .int .i64 0] 28 (0, 0)) ∧ wr.heap[w4.heap.size]? = some (.cells #[.int .i64 a, .int .i64 b, .int .i64 c] 28 (0, 0)) ∧ Below w.heap.size w wr
theorem ptTimes_any (A B x y e n : Int) (w : World) (hA : -1000 ≤ A ∧ A ≤ 1000) (hB : -10000 ≤ B ∧ B ≤ 10000) (hp : ptB A B x y e = true) (hn : -12 ≤ n ∧ n ≤ 12) :
    Calls Try.prog 24 #[.agg #[.int .i64 A, .int .i64 B], .agg #[.int .i64 x, .int .i64 y, .int .i64 e], .int .i64 n] w fun r w' =>
      r = .returned (.tuple #[.agg #[.int .i64 (ptN A x y e n).1, .int .i64 (ptN A x y e n).2.1, .int .i64 (ptN A x y e n).2.2.1], .bool (ptN A x y e n).2.2.2]) ∧ Below w.heap.size w w' := by
  obtain ⟨r1, r2, r3, r4, hr⟩ := pt4 (ptN A x y e n)
  rw [hr]
  have hyb : -3000000 ≤ y ∧ y ≤ 3000000 := by
    rcases pt_cases hA hB hp with ⟨_, rfl, _⟩ | ⟨_, _, h, _⟩
    · omega
    · exact h
  by_cases h0 : n < 0
  · have HR := Lib.hid (show ptM A x (-y) e n.natAbs = (r1, r2, r3, r4) by rw [← hr, ptN]; first | rw [if_pos h0] | rw [if_neg h0])
    have hpm : ptB A B x (-y) e = true := by first | exact hp | exact ptB_neg hp
    obtain ⟨N, hN⟩ : ∃ N : Nat, n.natAbs = N := ⟨_, rfl⟩
    have hNb : N ≤ 12 := by omega
    rw [hN] at HR
    obtain rfl : n = -(N : Int) := by omega
    clear hr hp
    have tok1 : True := trivial
    have tok2 : True := trivial
    have tok3 : True := trivial
    go_enter Try.func24, Try.ntmps24
    go_upto_region 2 with fail
    refine chk (fun W => Below w.heap.size w W ∧ W.heap[w.heap.size]? = some (.cells #[.int .i64 A, .int .i64 B] 31 (0, 0)) ∧ W.heap[w.heap.size + 1]? = some (.cells #[.int .i64 x, .int .i64 y, .int .i64 e] 28 (0, 0)) ∧ W.heap[w.heap.size + 1 + 1]? = some (.cells #[.int .i64 0, .int .i64 0, .int .i64 0] 28 (0, 0))) (by refine ⟨?_, ?_, ?_, ?_⟩ <;> (repeat' first | (with_reducible first | assumption | (apply Ne.symm; assumption) | apply Nat.le_refl | apply Nat.le_add_right | apply zL | apply zRf | apply Wx.box | apply Wx.box4 | apply zWa | apply Wx.drew | apply zWn | apply bx_drew | apply bx_drewN | apply bx_set3 | apply bx_set2 | apply bx_set4 | apply bx_set1) | ((with_reducible apply bx_new); (focus (go_size; done))) | (with_reducible first | apply zOl | apply zFa | apply zDn | apply zDr | apply zAl | apply zSt | refine zVi (by assumption) ?_ ?_) | go_size | omega)) ?_
    rintro w40 ⟨hB40, H_C_40, H_P_40, H_O_40⟩
    obtain ⟨k_C_40_0, k_C_40_1, f_C_40, l_C_40⟩ := bk2 H_C_40
    replace H_C_40 := Lib.hid H_C_40
    obtain ⟨k_P_40_0, k_P_40_1, k_P_40_2, f_P_40, l_P_40⟩ := bk3 H_P_40
    replace H_P_40 := Lib.hid H_P_40
    obtain ⟨k_O_40_0, k_O_40_1, k_O_40_2, f_O_40, l_O_40⟩ := bk3 H_O_40
    replace H_O_40 := Lib.hid H_O_40
    go_upto_region 3 with (first | (have _t := tok1; go_at_call 42; refine (ptMinus_any x y e _ (by omega)).mono ?_; rintro e w1 ⟨rfl, hb1⟩; clear tok1 _t; have hz1 := hb1.size; (try simp only [World.size_alloc, World.size_setCell, World.size_drew, World.size_drewN'] at hz1); (try (have kq := cellAt hb1 (w.heap.size) (by go_size); have k1_w_0_0 := kq 0; have k1_w_0_1 := kq 1; clear kq; have f1_w_0 := frozAt hb1 (w.heap.size) (by go_size); simp [go_sem, *] at k1_w_0_0 k1_w_0_1 f1_w_0)); (try have l1_w_0 : w.heap.size < w1.heap.size := by omega); (try (have kq := cellAt hb1 (w.heap.size + 1) (by go_size); have k1_w_1_0 := kq 0; have k1_w_1_1 := kq 1; have k1_w_1_2 := kq 2; clear kq; have f1_w_1 := frozAt hb1 (w.heap.size + 1) (by go_size); simp [go_sem, *] at k1_w_1_0 k1_w_1_1 k1_w_1_2 f1_w_1)); (try have l1_w_1 : w.heap.size + 1 < w1.heap.size := by omega); (try (have kq := cellAt hb1 (w.heap.size + 1 + 1) (by go_size); have k1_w_2_0 := kq 0; have k1_w_2_1 := kq 1; have k1_w_2_2 := kq 2; clear kq; have f1_w_2 := frozAt hb1 (w.heap.size + 1 + 1) (by go_size); simp [go_sem, *] at k1_w_2_0 k1_w_2_1 k1_w_2_2 f1_w_2)); (try have l1_w_2 : w.heap.size + 1 + 1 < w1.heap.size := by omega)))
    have H_C_1 := (hb1.block (w.heap.size) (blk_lt' H_C_40.out)).trans H_C_40.out
    clear k_C_40_0 k_C_40_1 f_C_40 H_C_40
    obtain ⟨k_C_1_0, k_C_1_1, f_C_1, l_C_1⟩ := bk2 H_C_1
    replace H_C_1 := Lib.hid H_C_1
    have H_P_1 := (hb1.block (w.heap.size + 1) (blk_lt' H_P_40.out)).trans H_P_40.out
    clear k_P_40_0 k_P_40_1 k_P_40_2 f_P_40 H_P_40
    obtain ⟨k_P_1_0, k_P_1_1, k_P_1_2, f_P_1, l_P_1⟩ := bk3 H_P_1
    replace H_P_1 := Lib.hid H_P_1
    have H_O_1 := (hb1.block (w.heap.size + 1 + 1) (blk_lt' H_O_40.out)).trans H_O_40.out
    clear k_O_40_0 k_O_40_1 k_O_40_2 f_O_40 H_O_40
    obtain ⟨k_O_1_0, k_O_1_1, k_O_1_2, f_O_1, l_O_1⟩ := bk3 H_O_1
    replace H_O_1 := Lib.hid H_O_1
    have hB1 : Below w.heap.size w w1 := below_via hb1 (by assumption) (by go_size)
    replace H_C_1 := H_C_1.out
    replace H_P_1 := H_P_1.out
    replace H_O_1 := H_O_1.out
    refine chk (fun W => Below w.heap.size w W ∧ W.heap[w.heap.size]? = some (.cells #[.int .i64 A, .int .i64 B] 31 (0, 0)) ∧ W.heap[w.heap.size + 1]? = some (.cells #[.int .i64 x, .int .i64 (-y), .int .i64 e] 28 (0, 0)) ∧ W.heap[w.heap.size + 1 + 1]? = some (.cells #[.int .i64 0, .int .i64 0, .int .i64 0] 28 (0, 0))) (by refine ⟨?_, ?_, ?_, ?_⟩ <;> (repeat' first | (with_reducible first | assumption | (apply Ne.symm; assumption) | apply Nat.le_refl | apply Nat.le_add_right | apply zL | apply zRf | apply Wx.box | apply Wx.box4 | apply zWa | apply Wx.drew | apply zWn | apply bx_drew | apply bx_drewN | apply bx_set3 | apply bx_set2 | apply bx_set4 | apply bx_set1) | ((with_reducible apply bx_new); (focus (go_size; done))) | (with_reducible first | apply zOl | apply zFa | apply zDn | apply zDr | apply zAl | apply zSt | refine zVi (by assumption) ?_ ?_) | go_size | omega)) ?_
    clear k_C_1_0 k_C_1_1 f_C_1 H_C_1
    clear k_P_1_0 k_P_1_1 k_P_1_2 f_P_1 H_P_1
    clear k_O_1_0 k_O_1_1 k_O_1_2 f_O_1 H_O_1
    clear hB1
    rintro w41 ⟨hB41, H_C_41, H_P_41, H_O_41⟩
    obtain ⟨k_C_41_0, k_C_41_1, f_C_41, l_C_41⟩ := bk2 H_C_41
    replace H_C_41 := Lib.hid H_C_41
    obtain ⟨k_P_41_0, k_P_41_1, k_P_41_2, f_P_41, l_P_41⟩ := bk3 H_P_41
    replace H_P_41 := Lib.hid H_P_41
    obtain ⟨k_O_41_0, k_O_41_1, k_O_41_2, f_O_41, l_O_41⟩ := bk3 H_O_41
    replace H_O_41 := Lib.hid H_O_41
    clear h0 hN hn
    go_wp2_with fail
    go_loopw [2] (fun nv wr => PtRel w w41 A B x (-y) e N nv wr) (fun nv _ => (intOf nv).toNat)
    case atStart =>
      have q1 := H_C_41.out
      have q2 := H_P_41.out
      have q3 := H_O_41.out
      exact ⟨0, 0, 0, 0, by simp, by omega, rfl, by (repeat' first | (with_reducible first | assumption | (apply Ne.symm; assumption) | apply Nat.le_refl | apply Nat.le_add_right | apply zL | apply zRf | apply Wx.box | apply Wx.box4 | apply zWa | apply Wx.drew | apply zWn | apply bx_drew | apply bx_drewN | apply bx_set3 | apply bx_set2 | apply bx_set4 | apply bx_set1) | ((with_reducible apply bx_new); (focus (go_size; done))) | (with_reducible first | apply zOl | apply zFa | apply zDn | apply zDr | apply zAl | apply zSt | refine zVi (by assumption) ?_ ?_) | go_size | omega), by (repeat' first | (with_reducible first | assumption | (apply Ne.symm; assumption) | apply Nat.le_refl | apply Nat.le_add_right | apply zL | apply zRf | apply Wx.box | apply Wx.box4 | apply zWa | apply Wx.drew | apply zWn | apply bx_drew | apply bx_drewN | apply bx_set3 | apply bx_set2 | apply bx_set4 | apply bx_set1) | ((with_reducible apply bx_new); (focus (go_size; done))) | (with_reducible first | apply zOl | apply zFa | apply zDn | apply zDr | apply zAl | apply zSt | refine zVi (by assumption) ?_ ?_) | go_size | omega), by (repeat' first | (with_reducible first | assumption | (apply Ne.symm; assumption) | apply Nat.le_refl | apply Nat.le_add_right | apply zL | apply zRf | apply Wx.box | apply Wx.box4 | apply zWa | apply Wx.drew | apply zWn | apply bx_drew | apply bx_drewN | apply bx_set3 | apply bx_set2 | apply bx_set4 | apply bx_set1) | ((with_reducible apply bx_new); (focus (go_size; done))) | (with_reducible first | apply zOl | apply zFa | apply zDn | apply zDr | apply zAl | apply zSt | refine zVi (by assumption) ?_ ?_) | go_size | omega), by (repeat' first | (with_reducible first | assumption | (apply Ne.symm; assumption) | apply Nat.le_refl | apply Nat.le_add_right | apply zL | apply zRf | apply Wx.box | apply Wx.box4 | apply zWa | apply Wx.drew | apply zWn | apply bx_drew | apply bx_drewN | apply bx_set3 | apply bx_set2 | apply bx_set4 | apply bx_set1) | ((with_reducible apply bx_new); (focus (go_size; done))) | (with_reducible first | apply zOl | apply zFa | apply zDn | apply zDr | apply zAl | apply zSt | refine zVi (by assumption) ?_ ?_) | go_size | omega), by (repeat' first | (with_reducible first | assumption | (apply Ne.symm; assumption) | apply Nat.le_refl | apply Nat.le_add_right | apply zL | apply zRf | apply Wx.box | apply Wx.box4 | apply zWa | apply Wx.drew | apply zWn | apply bx_drew | apply bx_drewN | apply bx_set3 | apply bx_set2 | apply bx_set4 | apply bx_set1) | ((with_reducible apply bx_new); (focus (go_size; done))) | (with_reducible first | apply zOl | apply zFa | apply zDn | apply zDr | apply zAl | apply zSt | refine zVi (by assumption) ?_ ?_) | go_size | omega)⟩
    case round =>
      obtain ⟨k, a, b, c, rfl, hk, hm, hC, hP, hO, hS, hbw⟩ := hrel
      have HM := Lib.hid hm
      clear hm
      by_cases hlt : k < N
      · have hgt : (0 : Int) < (N : Int) - k := by omega
        have hok := ptM_ok hA hB hpm k
        rw [HM.out] at hok
        have hpk : ptB A B a b c = true := by rcases hok with ⟨_, h⟩ | h; exact h; simp at h
        have hst := ptM_step (show (ptM A x (-y) e k).2.2.2 = true by rw [HM.out])
        rw [HM.out] at hst
        have TA := fun W : World => ptAdd_any A B a b c x (-y) e W hA hB hpk hpm
        obtain ⟨a2, b2, c2, ok, hq⟩ := pt4 (ptS A a b c x (-y) e)
        simp only [hq] at TA hst
        have HST := Lib.hid hst
        clear hok hpk hst hq
        go_upto_region 7 with fail
        replace H_C_41 := H_C_41.out
        replace H_P_41 := H_P_41.out
        replace H_O_41 := H_O_41.out
        refine chk (fun W => Below w.heap.size w W ∧ W.heap[w.heap.size]? = some (.cells #[.int .i64 A, .int .i64 B] 31 (0, 0)) ∧ W.heap[w.heap.size + 1]? = some (.cells #[.int .i64 x, .int .i64 (-y), .int .i64 e] 28 (0, 0)) ∧ W.heap[w.heap.size + 1 + 1]? = some (.cells #[.int .i64 0, .int .i64 0, .int .i64 0] 28 (0, 0)) ∧ W.heap[w41.heap.size]? = some (.cells #[.int .i64 a, .int .i64 b, .int .i64 c] 28 (0, 0))) (by refine ⟨?_, ?_, ?_, ?_, ?_⟩ <;> (repeat' first | (with_reducible first | assumption | (apply Ne.symm; assumption) | apply Nat.le_refl | apply Nat.le_add_right | apply zL | apply zRf | apply Wx.box | apply Wx.box4 | apply zWa | apply Wx.drew | apply zWn | apply bx_drew | apply bx_drewN | apply bx_set3 | apply bx_set2 | apply bx_set4 | apply bx_set1) | ((with_reducible apply bx_new); (focus (go_size; done))) | (with_reducible first | apply zOl | apply zFa | apply zDn | apply zDr | apply zAl | apply zSt | refine zVi (by assumption) ?_ ?_) | go_size | omega)) ?_
        clear k_C_41_0 k_C_41_1 f_C_41 H_C_41
        clear k_P_41_0 k_P_41_1 k_P_41_2 f_P_41 H_P_41
        clear k_O_41_0 k_O_41_1 k_O_41_2 f_O_41 H_O_41
        clear hB41
        rintro w1 ⟨hB1, H_C_1, H_P_1, H_O_1, H_S_1⟩
        obtain ⟨k_C_1_0, k_C_1_1, f_C_1, l_C_1⟩ := bk2 H_C_1
        replace H_C_1 := Lib.hid H_C_1
        obtain ⟨k_P_1_0, k_P_1_1, k_P_1_2, f_P_1, l_P_1⟩ := bk3 H_P_1
        replace H_P_1 := Lib.hid H_P_1
        obtain ⟨k_O_1_0, k_O_1_1, k_O_1_2, f_O_1, l_O_1⟩ := bk3 H_O_1
        replace H_O_1 := Lib.hid H_O_1
        obtain ⟨k_S_1_0, k_S_1_1, k_S_1_2, f_S_1, l_S_1⟩ := bk3 H_S_1
        replace H_S_1 := Lib.hid H_S_1
        clear hC hP hO hS
        go_upto_region 8 with (first | (have _t := tok3; go_at_call 25; (with_reducible refine ((TA _)).mono ?_); rintro e w3 ⟨rfl, hb3⟩; clear tok3 _t; have hz3 := hb3.size; (try simp only [World.size_alloc, World.size_setCell, World.size_drew, World.size_drewN'] at hz3)))
        have H_C_3 := (hb3.block (w.heap.size) (blk_lt' H_C_1.out)).trans H_C_1.out
        clear k_C_1_0 k_C_1_1 f_C_1 H_C_1
        obtain ⟨k_C_3_0, k_C_3_1, f_C_3, l_C_3⟩ := bk2 H_C_3
        replace H_C_3 := Lib.hid H_C_3
        have H_P_3 := (hb3.block (w.heap.size + 1) (blk_lt' H_P_1.out)).trans H_P_1.out
        clear k_P_1_0 k_P_1_1 k_P_1_2 f_P_1 H_P_1
        obtain ⟨k_P_3_0, k_P_3_1, k_P_3_2, f_P_3, l_P_3⟩ := bk3 H_P_3
        replace H_P_3 := Lib.hid H_P_3
        have H_O_3 := (hb3.block (w.heap.size + 1 + 1) (blk_lt' H_O_1.out)).trans H_O_1.out
        clear k_O_1_0 k_O_1_1 k_O_1_2 f_O_1 H_O_1
        obtain ⟨k_O_3_0, k_O_3_1, k_O_3_2, f_O_3, l_O_3⟩ := bk3 H_O_3
        replace H_O_3 := Lib.hid H_O_3
        have H_S_3 := (hb3.block (w41.heap.size) (blk_lt' H_S_1.out)).trans H_S_1.out
        clear k_S_1_0 k_S_1_1 k_S_1_2 f_S_1 H_S_1
        obtain ⟨k_S_3_0, k_S_3_1, k_S_3_2, f_S_3, l_S_3⟩ := bk3 H_S_3
        replace H_S_3 := Lib.hid H_S_3
        have hB3 : Below w.heap.size w w3 := below_via hb3 (by assumption) (by go_size)
        replace H_C_3 := H_C_3.out
        replace H_P_3 := H_P_3.out
        replace H_O_3 := H_O_3.out
        replace H_S_3 := H_S_3.out
        refine chk (fun W => Below w.heap.size w W ∧ W.heap[w.heap.size]? = some (.cells #[.int .i64 A, .int .i64 B] 31 (0, 0)) ∧ W.heap[w.heap.size + 1]? = some (.cells #[.int .i64 x, .int .i64 (-y), .int .i64 e] 28 (0, 0)) ∧ W.heap[w.heap.size + 1 + 1]? = some (.cells #[.int .i64 0, .int .i64 0, .int .i64 0] 28 (0, 0)) ∧ W.heap[w41.heap.size]? = some (.cells #[.int .i64 a, .int .i64 b, .int .i64 c] 28 (0, 0)) ∧ W.heap[w3.heap.size]? = some (.cells #[.int .i64 a2, .int .i64 b2, .int .i64 c2] 28 (0, 0))) (by refine ⟨?_, ?_, ?_, ?_, ?_, ?_⟩ <;> (repeat' first | (with_reducible first | assumption | (apply Ne.symm; assumption) | apply Nat.le_refl | apply Nat.le_add_right | apply zL | apply zRf | apply Wx.box | apply Wx.box4 | apply zWa | apply Wx.drew | apply zWn | apply bx_drew | apply bx_drewN | apply bx_set3 | apply bx_set2 | apply bx_set4 | apply bx_set1) | ((with_reducible apply bx_new); (focus (go_size; done))) | (with_reducible first | apply zOl | apply zFa | apply zDn | apply zDr | apply zAl | apply zSt | refine zVi (by assumption) ?_ ?_) | go_size | omega)) ?_
        clear k_C_3_0 k_C_3_1 f_C_3 H_C_3
        clear k_P_3_0 k_P_3_1 k_P_3_2 f_P_3 H_P_3
        clear k_O_3_0 k_O_3_1 k_O_3_2 f_O_3 H_O_3
        clear k_S_3_0 k_S_3_1 k_S_3_2 f_S_3 H_S_3
        clear hB3
        rintro w4 ⟨hB4, H_C_4, H_P_4, H_O_4, H_S_4, H_T_4⟩
        obtain ⟨k_C_4_0, k_C_4_1, f_C_4, l_C_4⟩ := bk2 H_C_4
        replace H_C_4 := Lib.hid H_C_4
        obtain ⟨k_P_4_0, k_P_4_1, k_P_4_2, f_P_4, l_P_4⟩ := bk3 H_P_4
        replace H_P_4 := Lib.hid H_P_4
        obtain ⟨k_O_4_0, k_O_4_1, k_O_4_2, f_O_4, l_O_4⟩ := bk3 H_O_4
        replace H_O_4 := Lib.hid H_O_4
        obtain ⟨k_S_4_0, k_S_4_1, k_S_4_2, f_S_4, l_S_4⟩ := bk3 H_S_4
        replace H_S_4 := Lib.hid H_S_4
        obtain ⟨k_T_4_0, k_T_4_1, k_T_4_2, f_T_4, l_T_4⟩ := bk3 H_T_4
        replace H_T_4 := Lib.hid H_T_4
        cases ok
        · have hR := ptM_out hA hB hpm (show (ptM A x (-y) e (k + 1)).2.2.2 = false by rw [HST.out]) N (by omega)
          rw [HR.out] at hR
          obtain ⟨rfl, rfl, rfl, rfl⟩ : r1 = 0 ∧ r2 = 0 ∧ r3 = 0 ∧ r4 = false := by simpa using hR
          go_upto_region 9 with fail
          iterate 40 (first | (with_reducible show bodyPost _ _ _ _ _ _) | (with_reducible refine wp_ret ?_) | go_values | go_skip | go_guarded | go_step | go_upon | go_back | skip)
          refine bodyPost_ret (v := .tuple #[.agg #[.int .i64 0, .int .i64 0, .int .i64 0], .bool false]) (by simp [results, Try.results24, go_sem, k_O_4_0, k_O_4_1, k_O_4_2]) rfl ⟨rfl, ?_⟩
          have HO := H_O_4.out
          (repeat' first | (with_reducible first | assumption | (apply Ne.symm; assumption) | apply Nat.le_refl | apply Nat.le_add_right | apply zL | apply zRf | apply Wx.box | apply Wx.box4 | apply zWa | apply Wx.drew | apply zWn | apply bx_drew | apply bx_drewN | apply bx_set3 | apply bx_set2 | apply bx_set4 | apply bx_set1) | ((with_reducible apply bx_new); (focus (go_size; done))) | (with_reducible first | apply zOl | apply zFa | apply zDn | apply zDr | apply zAl | apply zSt | refine zVi (by assumption) ?_ ?_) | go_size | omega)
        · have _t := trivial
          go_wp2_with fail
          go_roundw
          have q1 := H_C_4.out
          have q2 := H_P_4.out
          have q3 := H_O_4.out
          have q4 := H_S_4.out
          case rel => exact ⟨k + 1, a2, b2, c2, by go_num, by omega, HST.out, by (repeat' first | (with_reducible first | assumption | (apply Ne.symm; assumption) | apply Nat.le_refl | apply Nat.le_add_right | apply zL | apply zRf | apply Wx.box | apply Wx.box4 | apply zWa | apply Wx.drew | apply zWn | apply bx_drew | apply bx_drewN | apply bx_set3 | apply bx_set2 | apply bx_set4 | apply bx_set1) | ((with_reducible apply bx_new); (focus (go_size; done))) | (with_reducible first | apply zOl | apply zFa | apply zDn | apply zDr | apply zAl | apply zSt | refine zVi (by assumption) ?_ ?_) | go_size | omega), by (repeat' first | (with_reducible first | assumption | (apply Ne.symm; assumption) | apply Nat.le_refl | apply Nat.le_add_right | apply zL | apply zRf | apply Wx.box | apply Wx.box4 | apply zWa | apply Wx.drew | apply zWn | apply bx_drew | apply bx_drewN | apply bx_set3 | apply bx_set2 | apply bx_set4 | apply bx_set1) | ((with_reducible apply bx_new); (focus (go_size; done))) | (with_reducible first | apply zOl | apply zFa | apply zDn | apply zDr | apply zAl | apply zSt | refine zVi (by assumption) ?_ ?_) | go_size | omega), by (repeat' first | (with_reducible first | assumption | (apply Ne.symm; assumption) | apply Nat.le_refl | apply Nat.le_add_right | apply zL | apply zRf | apply Wx.box | apply Wx.box4 | apply zWa | apply Wx.drew | apply zWn | apply bx_drew | apply bx_drewN | apply bx_set3 | apply bx_set2 | apply bx_set4 | apply bx_set1) | ((with_reducible apply bx_new); (focus (go_size; done))) | (with_reducible first | apply zOl | apply zFa | apply zDn | apply zDr | apply zAl | apply zSt | refine zVi (by assumption) ?_ ?_) | go_size | omega), by (repeat' first | (with_reducible first | assumption | (apply Ne.symm; assumption) | apply Nat.le_refl | apply Nat.le_add_right | apply zL | apply zRf | apply Wx.box | apply Wx.box4 | apply zWa | apply Wx.drew | apply zWn | apply bx_drew | apply bx_drewN | apply bx_set3 | apply bx_set2 | apply bx_set4 | apply bx_set1) | ((with_reducible apply bx_new); (focus (go_size; done))) | (with_reducible first | apply zOl | apply zFa | apply zDn | apply zDr | apply zAl | apply zSt | refine zVi (by assumption) ?_ ?_) | go_size | omega), by (repeat' first | (with_reducible first | assumption | (apply Ne.symm; assumption) | apply Nat.le_refl | apply Nat.le_add_right | apply zL | apply zRf | apply Wx.box | apply Wx.box4 | apply zWa | apply Wx.drew | apply zWn | apply bx_drew | apply bx_drewN | apply bx_set3 | apply bx_set2 | apply bx_set4 | apply bx_set1) | ((with_reducible apply bx_new); (focus (go_size; done))) | (with_reducible first | apply zOl | apply zFa | apply zDn | apply zDr | apply zAl | apply zSt | refine zVi (by assumption) ?_ ?_) | go_size | omega)⟩
          case measure => simp [intOf]; omega
      · obtain rfl : k = N := by omega
        have hR := HR.out
        rw [HM.out] at hR
        obtain ⟨rfl, rfl, rfl, rfl⟩ : a = r1 ∧ b = r2 ∧ c = r3 ∧ true = r4 := by simpa using hR
        have hgt : ¬ (0 : Int) < (k : Int) - k := by omega
        go_upto_region 11 with fail
        replace H_C_41 := H_C_41.out
        replace H_P_41 := H_P_41.out
        replace H_O_41 := H_O_41.out
        refine chk (fun W => Below w.heap.size w W ∧ W.heap[w.heap.size + 1 + 1]? = some (.cells #[.int .i64 0, .int .i64 0, .int .i64 0] 28 (0, 0)) ∧ W.heap[w41.heap.size]? = some (.cells #[.int .i64 a, .int .i64 b, .int .i64 c] 28 (0, 0))) (by refine ⟨?_, ?_, ?_⟩ <;> (repeat' first | (with_reducible first | assumption | (apply Ne.symm; assumption) | apply Nat.le_refl | apply Nat.le_add_right | apply zL | apply zRf | apply Wx.box | apply Wx.box4 | apply zWa | apply Wx.drew | apply zWn | apply bx_drew | apply bx_drewN | apply bx_set3 | apply bx_set2 | apply bx_set4 | apply bx_set1) | ((with_reducible apply bx_new); (focus (go_size; done))) | (with_reducible first | apply zOl | apply zFa | apply zDn | apply zDr | apply zAl | apply zSt | refine zVi (by assumption) ?_ ?_) | go_size | omega)) ?_
        clear k_C_41_0 k_C_41_1 f_C_41 H_C_41
        clear k_P_41_0 k_P_41_1 k_P_41_2 f_P_41 H_P_41
        clear k_O_41_0 k_O_41_1 k_O_41_2 f_O_41 H_O_41
        clear hB41
        rintro w1 ⟨hB1, H_O_1, H_S_1⟩
        obtain ⟨k_O_1_0, k_O_1_1, k_O_1_2, f_O_1, l_O_1⟩ := bk3 H_O_1
        replace H_O_1 := Lib.hid H_O_1
        obtain ⟨k_S_1_0, k_S_1_1, k_S_1_2, f_S_1, l_S_1⟩ := bk3 H_S_1
        replace H_S_1 := Lib.hid H_S_1
        iterate 40 (first | (with_reducible show bodyPost _ _ _ _ _ _) | (with_reducible refine wp_ret ?_) | go_values | go_skip | go_guarded | go_step | go_upon | go_back | skip)
        refine bodyPost_ret (v := .tuple #[.agg #[.int .i64 a, .int .i64 b, .int .i64 c], .bool true]) (by simp [results, Try.results24, go_sem, k_O_1_0, k_O_1_1, k_O_1_2]) rfl ⟨rfl, ?_⟩
        have HO := H_O_1.out
        (repeat' first | (with_reducible first | assumption | (apply Ne.symm; assumption) | apply Nat.le_refl | apply Nat.le_add_right | apply zL | apply zRf | apply Wx.box | apply Wx.box4 | apply zWa | apply Wx.drew | apply zWn | apply bx_drew | apply bx_drewN | apply bx_set3 | apply bx_set2 | apply bx_set4 | apply bx_set1) | ((with_reducible apply bx_new); (focus (go_size; done))) | (with_reducible first | apply zOl | apply zFa | apply zDn | apply zDr | apply zAl | apply zSt | refine zVi (by assumption) ?_ ?_) | go_size | omega)
  · have HR := Lib.hid (show ptM A x y e n.natAbs = (r1, r2, r3, r4) by rw [← hr, ptN]; first | rw [if_pos h0] | rw [if_neg h0])
    have hpm : ptB A B x y e = true := by first | exact hp | exact ptB_neg hp
    obtain ⟨N, hN⟩ : ∃ N : Nat, n.natAbs = N := ⟨_, rfl⟩
    have hNb : N ≤ 12 := by omega
    rw [hN] at HR
    obtain rfl : n = (N : Int) := by omega
    clear hr hp
    have tok1 : True := trivial
    have tok2 : True := trivial
    have tok3 : True := trivial
    go_enter Try.func24, Try.ntmps24
    go_upto_region 4 with fail
    refine chk (fun W => Below w.heap.size w W ∧ W.heap[w.heap.size]? = some (.cells #[.int .i64 A, .int .i64 B] 31 (0, 0)) ∧ W.heap[w.heap.size + 1]? = some (.cells #[.int .i64 x, .int .i64 y, .int .i64 e] 28 (0, 0)) ∧ W.heap[w.heap.size + 1 + 1]? = some (.cells #[.int .i64 0, .int .i64 0, .int .i64 0] 28 (0, 0))) (by refine ⟨?_, ?_, ?_, ?_⟩ <;> (repeat' first | (with_reducible first | assumption | (apply Ne.symm; assumption) | apply Nat.le_refl | apply Nat.le_add_right | apply zL | apply zRf | apply Wx.box | apply Wx.box4 | apply zWa | apply Wx.drew | apply zWn | apply bx_drew | apply bx_drewN | apply bx_set3 | apply bx_set2 | apply bx_set4 | apply bx_set1) | ((with_reducible apply bx_new); (focus (go_size; done))) | (with_reducible first | apply zOl | apply zFa | apply zDn | apply zDr | apply zAl | apply zSt | refine zVi (by assumption) ?_ ?_) | go_size | omega)) ?_
    rintro w41 ⟨hB41, H_C_41, H_P_41, H_O_41⟩
    obtain ⟨k_C_41_0, k_C_41_1, f_C_41, l_C_41⟩ := bk2 H_C_41
    replace H_C_41 := Lib.hid H_C_41
    obtain ⟨k_P_41_0, k_P_41_1, k_P_41_2, f_P_41, l_P_41⟩ := bk3 H_P_41
    replace H_P_41 := Lib.hid H_P_41
    obtain ⟨k_O_41_0, k_O_41_1, k_O_41_2, f_O_41, l_O_41⟩ := bk3 H_O_41
    replace H_O_41 := Lib.hid H_O_41
    clear h0 hN hn
    go_wp2_with fail
    go_loopw [2] (fun nv wr => PtRel w w41 A B x y e N nv wr) (fun nv _ => (intOf nv).toNat)
    case atStart =>
      have q1 := H_C_41.out
      have q2 := H_P_41.out
      have q3 := H_O_41.out
      exact ⟨0, 0, 0, 0, by simp, by omega, rfl, by (repeat' first | (with_reducible first | assumption | (apply Ne.symm; assumption) | apply Nat.le_refl | apply Nat.le_add_right | apply zL | apply zRf | apply Wx.box | apply Wx.box4 | apply zWa | apply Wx.drew | apply zWn | apply bx_drew | apply bx_drewN | apply bx_set3 | apply bx_set2 | apply bx_set4 | apply bx_set1) | ((with_reducible apply bx_new); (focus (go_size; done))) | (with_reducible first | apply zOl | apply zFa | apply zDn | apply zDr | apply zAl | apply zSt | refine zVi (by assumption) ?_ ?_) | go_size | omega), by (repeat' first | (with_reducible first | assumption | (apply Ne.symm; assumption) | apply Nat.le_refl | apply Nat.le_add_right | apply zL | apply zRf | apply Wx.box | apply Wx.box4 | apply zWa | apply Wx.drew | apply zWn | apply bx_drew | apply bx_drewN | apply bx_set3 | apply bx_set2 | apply bx_set4 | apply bx_set1) | ((with_reducible apply bx_new); (focus (go_size; done))) | (with_reducible first | apply zOl | apply zFa | apply zDn | apply zDr | apply zAl | apply zSt | refine zVi (by assumption) ?_ ?_) | go_size | omega), by (repeat' first | (with_reducible first | assumption | (apply Ne.symm; assumption) | apply Nat.le_refl | apply Nat.le_add_right | apply zL | apply zRf | apply Wx.box | apply Wx.box4 | apply zWa | apply Wx.drew | apply zWn | apply bx_drew | apply bx_drewN | apply bx_set3 | apply bx_set2 | apply bx_set4 | apply bx_set1) | ((with_reducible apply bx_new); (focus (go_size; done))) | (with_reducible first | apply zOl | apply zFa | apply zDn | apply zDr | apply zAl | apply zSt | refine zVi (by assumption) ?_ ?_) | go_size | omega), by (repeat' first | (with_reducible first | assumption | (apply Ne.symm; assumption) | apply Nat.le_refl | apply Nat.le_add_right | apply zL | apply zRf | apply Wx.box | apply Wx.box4 | apply zWa | apply Wx.drew | apply zWn | apply bx_drew | apply bx_drewN | apply bx_set3 | apply bx_set2 | apply bx_set4 | apply bx_set1) | ((with_reducible apply bx_new); (focus (go_size; done))) | (with_reducible first | apply zOl | apply zFa | apply zDn | apply zDr | apply zAl | apply zSt | refine zVi (by assumption) ?_ ?_) | go_size | omega), by (repeat' first | (with_reducible first | assumption | (apply Ne.symm; assumption) | apply Nat.le_refl | apply Nat.le_add_right | apply zL | apply zRf | apply Wx.box | apply Wx.box4 | apply zWa | apply Wx.drew | apply zWn | apply bx_drew | apply bx_drewN | apply bx_set3 | apply bx_set2 | apply bx_set4 | apply bx_set1) | ((with_reducible apply bx_new); (focus (go_size; done))) | (with_reducible first | apply zOl | apply zFa | apply zDn | apply zDr | apply zAl | apply zSt | refine zVi (by assumption) ?_ ?_) | go_size | omega)⟩
    case round =>
      obtain ⟨k, a, b, c, rfl, hk, hm, hC, hP, hO, hS, hbw⟩ := hrel
      have HM := Lib.hid hm
      clear hm
      by_cases hlt : k < N
      · have hgt : (0 : Int) < (N : Int) - k := by omega
        have hok := ptM_ok hA hB hpm k
        rw [HM.out] at hok
        have hpk : ptB A B a b c = true := by rcases hok with ⟨_, h⟩ | h; exact h; simp at h
        have hst := ptM_step (show (ptM A x y e k).2.2.2 = true by rw [HM.out])
        rw [HM.out] at hst
        have TA := fun W : World => ptAdd_any A B a b c x y e W hA hB hpk hpm
        obtain ⟨a2, b2, c2, ok, hq⟩ := pt4 (ptS A a b c x y e)
        simp only [hq] at TA hst
        have HST := Lib.hid hst
        clear hok hpk hst hq
        go_upto_region 7 with fail
        replace H_C_41 := H_C_41.out
        replace H_P_41 := H_P_41.out
        replace H_O_41 := H_O_41.out
        refine chk (fun W => Below w.heap.size w W ∧ W.heap[w.heap.size]? = some (.cells #[.int .i64 A, .int .i64 B] 31 (0, 0)) ∧ W.heap[w.heap.size + 1]? = some (.cells #[.int .i64 x, .int .i64 y, .int .i64 e] 28 (0, 0)) ∧ W.heap[w.heap.size + 1 + 1]? = some (.cells #[.int .i64 0, .int .i64 0, .int .i64 0] 28 (0, 0)) ∧ W.heap[w41.heap.size]? = some (.cells #[.int .i64 a, .int .i64 b, .int .i64 c] 28 (0, 0))) (by refine ⟨?_, ?_, ?_, ?_, ?_⟩ <;> (repeat' first | (with_reducible first | assumption | (apply Ne.symm; assumption) | apply Nat.le_refl | apply Nat.le_add_right | apply zL | apply zRf | apply Wx.box | apply Wx.box4 | apply zWa | apply Wx.drew | apply zWn | apply bx_drew | apply bx_drewN | apply bx_set3 | apply bx_set2 | apply bx_set4 | apply bx_set1) | ((with_reducible apply bx_new); (focus (go_size; done))) | (with_reducible first | apply zOl | apply zFa | apply zDn | apply zDr | apply zAl | apply zSt | refine zVi (by assumption) ?_ ?_) | go_size | omega)) ?_
        clear k_C_41_0 k_C_41_1 f_C_41 H_C_41
        clear k_P_41_0 k_P_41_1 k_P_41_2 f_P_41 H_P_41
        clear k_O_41_0 k_O_41_1 k_O_41_2 f_O_41 H_O_41
        clear hB41
        rintro w1 ⟨hB1, H_C_1, H_P_1, H_O_1, H_S_1⟩
        obtain ⟨k_C_1_0, k_C_1_1, f_C_1, l_C_1⟩ := bk2 H_C_1
        replace H_C_1 := Lib.hid H_C_1
        obtain ⟨k_P_1_0, k_P_1_1, k_P_1_2, f_P_1, l_P_1⟩ := bk3 H_P_1
        replace H_P_1 := Lib.hid H_P_1
        obtain ⟨k_O_1_0, k_O_1_1, k_O_1_2, f_O_1, l_O_1⟩ := bk3 H_O_1
        replace H_O_1 := Lib.hid H_O_1
        obtain ⟨k_S_1_0, k_S_1_1, k_S_1_2, f_S_1, l_S_1⟩ := bk3 H_S_1
        replace H_S_1 := Lib.hid H_S_1
        clear hC hP hO hS
        go_upto_region 8 with (first | (have _t := tok3; go_at_call 25; (with_reducible refine ((TA _)).mono ?_); rintro e w3 ⟨rfl, hb3⟩; clear tok3 _t; have hz3 := hb3.size; (try simp only [World.size_alloc, World.size_setCell, World.size_drew, World.size_drewN'] at hz3)))
        have H_C_3 := (hb3.block (w.heap.size) (blk_lt' H_C_1.out)).trans H_C_1.out
        clear k_C_1_0 k_C_1_1 f_C_1 H_C_1
        obtain ⟨k_C_3_0, k_C_3_1, f_C_3, l_C_3⟩ := bk2 H_C_3
        replace H_C_3 := Lib.hid H_C_3
        have H_P_3 := (hb3.block (w.heap.size + 1) (blk_lt' H_P_1.out)).trans H_P_1.out
        clear k_P_1_0 k_P_1_1 k_P_1_2 f_P_1 H_P_1
        obtain ⟨k_P_3_0, k_P_3_1, k_P_3_2, f_P_3, l_P_3⟩ := bk3 H_P_3
        replace H_P_3 := Lib.hid H_P_3
        have H_O_3 := (hb3.block (w.heap.size + 1 + 1) (blk_lt' H_O_1.out)).trans H_O_1.out
        clear k_O_1_0 k_O_1_1 k_O_1_2 f_O_1 H_O_1
        obtain ⟨k_O_3_0, k_O_3_1, k_O_3_2, f_O_3, l_O_3⟩ := bk3 H_O_3
        replace H_O_3 := Lib.hid H_O_3
        have H_S_3 := (hb3.block (w41.heap.size) (blk_lt' H_S_1.out)).trans H_S_1.out
        clear k_S_1_0 k_S_1_1 k_S_1_2 f_S_1 H_S_1
        obtain ⟨k_S_3_0, k_S_3_1, k_S_3_2, f_S_3, l_S_3⟩ := bk3 H_S_3
        replace H_S_3 := Lib.hid H_S_3
        have hB3 : Below w.heap.size w w3 := below_via hb3 (by assumption) (by go_size)
        replace H_C_3 := H_C_3.out
        replace H_P_3 := H_P_3.out
        replace H_O_3 := H_O_3.out
        replace H_S_3 := H_S_3.out
        refine chk (fun W => Below w.heap.size w W ∧ W.heap[w.heap.size]? = some (.cells #[.int .i64 A, .int .i64 B] 31 (0, 0)) ∧ W.heap[w.heap.size + 1]? = some (.cells #[.int .i64 x, .int .i64 y, .int .i64 e] 28 (0, 0)) ∧ W.heap[w.heap.size + 1 + 1]? = some (.cells #[.int .i64 0, .int .i64 0, .int .i64 0] 28 (0, 0)) ∧ W.heap[w41.heap.size]? = some (.cells #[.int .i64 a, .int .i64 b, .int .i64 c] 28 (0, 0)) ∧ W.heap[w3.heap.size]? = some (.cells #[.int .i64 a2, .int .i64 b2, .int .i64 c2] 28 (0, 0))) (by refine ⟨?_, ?_, ?_, ?_, ?_, ?_⟩ <;> (repeat' first | (with_reducible first | assumption | (apply Ne.symm; assumption) | apply Nat.le_refl | apply Nat.le_add_right | apply zL | apply zRf | apply Wx.box | apply Wx.box4 | apply zWa | apply Wx.drew | apply zWn | apply bx_drew | apply bx_drewN | apply bx_set3 | apply bx_set2 | apply bx_set4 | apply bx_set1) | ((with_reducible apply bx_new); (focus (go_size; done))) | (with_reducible first | apply zOl | apply zFa | apply zDn | apply zDr | apply zAl | apply zSt | refine zVi (by assumption) ?_ ?_) | go_size | omega)) ?_
        clear k_C_3_0 k_C_3_1 f_C_3 H_C_3
        clear k_P_3_0 k_P_3_1 k_P_3_2 f_P_3 H_P_3
        clear k_O_3_0 k_O_3_1 k_O_3_2 f_O_3 H_O_3
        clear k_S_3_0 k_S_3_1 k_S_3_2 f_S_3 H_S_3
        clear hB3
        rintro w4 ⟨hB4, H_C_4, H_P_4, H_O_4, H_S_4, H_T_4⟩
        obtain ⟨k_C_4_0, k_C_4_1, f_C_4, l_C_4⟩ := bk2 H_C_4
        replace H_C_4 := Lib.hid H_C_4
        obtain ⟨k_P_4_0, k_P_4_1, k_P_4_2, f_P_4, l_P_4⟩ := bk3 H_P_4
        replace H_P_4 := Lib.hid H_P_4
        obtain ⟨k_O_4_0, k_O_4_1, k_O_4_2, f_O_4, l_O_4⟩ := bk3 H_O_4
        replace H_O_4 := Lib.hid H_O_4
        obtain ⟨k_S_4_0, k_S_4_1, k_S_4_2, f_S_4, l_S_4⟩ := bk3 H_S_4
        replace H_S_4 := Lib.hid H_S_4
        obtain ⟨k_T_4_0, k_T_4_1, k_T_4_2, f_T_4, l_T_4⟩ := bk3 H_T_4
        replace H_T_4 := Lib.hid H_T_4
        cases ok
        · have hR := ptM_out hA hB hpm (show (ptM A x y e (k + 1)).2.2.2 = false by rw [HST.out]) N (by omega)
          rw [HR.out] at hR
          obtain ⟨rfl, rfl, rfl, rfl⟩ : r1 = 0 ∧ r2 = 0 ∧ r3 = 0 ∧ r4 = false := by simpa using hR
          go_upto_region 9 with fail
          iterate 40 (first | (with_reducible show bodyPost _ _ _ _ _ _) | (with_reducible refine wp_ret ?_) | go_values | go_skip | go_guarded | go_step | go_upon | go_back | skip)
          refine bodyPost_ret (v := .tuple #[.agg #[.int .i64 0, .int .i64 0, .int .i64 0], .bool false]) (by simp [results, Try.results24, go_sem, k_O_4_0, k_O_4_1, k_O_4_2]) rfl ⟨rfl, ?_⟩
          have HO := H_O_4.out
          (repeat' first | (with_reducible first | assumption | (apply Ne.symm; assumption) | apply Nat.le_refl | apply Nat.le_add_right | apply zL | apply zRf | apply Wx.box | apply Wx.box4 | apply zWa | apply Wx.drew | apply zWn | apply bx_drew | apply bx_drewN | apply bx_set3 | apply bx_set2 | apply bx_set4 | apply bx_set1) | ((with_reducible apply bx_new); (focus (go_size; done))) | (with_reducible first | apply zOl | apply zFa | apply zDn | apply zDr | apply zAl | apply zSt | refine zVi (by assumption) ?_ ?_) | go_size | omega)
        · have _t := trivial
          go_wp2_with fail
          go_roundw
          have q1 := H_C_4.out
          have q2 := H_P_4.out
          have q3 := H_O_4.out
          have q4 := H_S_4.out
          case rel => exact ⟨k + 1, a2, b2, c2, by go_num, by omega, HST.out, by (repeat' first | (with_reducible first | assumption | (apply Ne.symm; assumption) | apply Nat.le_refl | apply Nat.le_add_right | apply zL | apply zRf | apply Wx.box | apply Wx.box4 | apply zWa | apply Wx.drew | apply zWn | apply bx_drew | apply bx_drewN | apply bx_set3 | apply bx_set2 | apply bx_set4 | apply bx_set1) | ((with_reducible apply bx_new); (focus (go_size; done))) | (with_reducible first | apply zOl | apply zFa | apply zDn | apply zDr | apply zAl | apply zSt | refine zVi (by assumption) ?_ ?_) | go_size | omega), by (repeat' first | (with_reducible first | assumption | (apply Ne.symm; assumption) | apply Nat.le_refl | apply Nat.le_add_right | apply zL | apply zRf | apply Wx.box | apply Wx.box4 | apply zWa | apply Wx.drew | apply zWn | apply bx_drew | apply bx_drewN | apply bx_set3 | apply bx_set2 | apply bx_set4 | apply bx_set1) | ((with_reducible apply bx_new); (focus (go_size; done))) | (with_reducible first | apply zOl | apply zFa | apply zDn | apply zDr | apply zAl | apply zSt | refine zVi (by assumption) ?_ ?_) | go_size | omega), by (repeat' first | (with_reducible first | assumption | (apply Ne.symm; assumption) | apply Nat.le_refl | apply Nat.le_add_right | apply zL | apply zRf | apply Wx.box | apply Wx.box4 | apply zWa | apply Wx.drew | apply zWn | apply bx_drew | apply bx_drewN | apply bx_set3 | apply bx_set2 | apply bx_set4 | apply bx_set1) | ((with_reducible apply bx_new); (focus (go_size; done))) | (with_reducible first | apply zOl | apply zFa | apply zDn | apply zDr | apply zAl | apply zSt | refine zVi (by assumption) ?_ ?_) | go_size | omega), by (repeat' first | (with_reducible first | assumption | (apply Ne.symm; assumption) | apply Nat.le_refl | apply Nat.le_add_right | apply zL | apply zRf | apply Wx.box | apply Wx.box4 | apply zWa | apply Wx.drew | apply zWn | apply bx_drew | apply bx_drewN | apply bx_set3 | apply bx_set2 | apply bx_set4 | apply bx_set1) | ((with_reducible apply bx_new); (focus (go_size; done))) | (with_reducible first | apply zOl | apply zFa | apply zDn | apply zDr | apply zAl | apply zSt | refine zVi (by assumption) ?_ ?_) | go_size | omega), by (repeat' first | (with_reducible first | assumption | (apply Ne.symm; assumption) | apply Nat.le_refl | apply Nat.le_add_right | apply zL | apply zRf | apply Wx.box | apply Wx.box4 | apply zWa | apply Wx.drew | apply zWn | apply bx_drew | apply bx_drewN | apply bx_set3 | apply bx_set2 | apply bx_set4 | apply bx_set1) | ((with_reducible apply bx_new); (focus (go_size; done))) | (with_reducible first | apply zOl | apply zFa | apply zDn | apply zDr | apply zAl | apply zSt | refine zVi (by assumption) ?_ ?_) | go_size | omega)⟩
          case measure => simp [intOf]; omega
      · obtain rfl : k = N := by omega
        have hR := HR.out
        rw [HM.out] at hR
        obtain ⟨rfl, rfl, rfl, rfl⟩ : a = r1 ∧ b = r2 ∧ c = r3 ∧ true = r4 := by simpa using hR
        have hgt : ¬ (0 : Int) < (k : Int) - k := by omega
        go_upto_region 11 with fail
        replace H_C_41 := H_C_41.out
        replace H_P_41 := H_P_41.out
        replace H_O_41 := H_O_41.out
        refine chk (fun W => Below w.heap.size w W ∧ W.heap[w.heap.size + 1 + 1]? = some (.cells #[.int .i64 0, .int .i64 0, .int .i64 0] 28 (0, 0)) ∧ W.heap[w41.heap.size]? = some (.cells #[.int .i64 a, .int .i64 b, .int .i64 c] 28 (0, 0))) (by refine ⟨?_, ?_, ?_⟩ <;> (repeat' first | (with_reducible first | assumption | (apply Ne.symm; assumption) | apply Nat.le_refl | apply Nat.le_add_right | apply zL | apply zRf | apply Wx.box | apply Wx.box4 | apply zWa | apply Wx.drew | apply zWn | apply bx_drew | apply bx_drewN | apply bx_set3 | apply bx_set2 | apply bx_set4 | apply bx_set1) | ((with_reducible apply bx_new); (focus (go_size; done))) | (with_reducible first | apply zOl | apply zFa | apply zDn | apply zDr | apply zAl | apply zSt | refine zVi (by assumption) ?_ ?_) | go_size | omega)) ?_
        clear k_C_41_0 k_C_41_1 f_C_41 H_C_41
        clear k_P_41_0 k_P_41_1 k_P_41_2 f_P_41 H_P_41
        clear k_O_41_0 k_O_41_1 k_O_41_2 f_O_41 H_O_41
        clear hB41
        rintro w1 ⟨hB1, H_O_1, H_S_1⟩
        obtain ⟨k_O_1_0, k_O_1_1, k_O_1_2, f_O_1, l_O_1⟩ := bk3 H_O_1
        replace H_O_1 := Lib.hid H_O_1
        obtain ⟨k_S_1_0, k_S_1_1, k_S_1_2, f_S_1, l_S_1⟩ := bk3 H_S_1
        replace H_S_1 := Lib.hid H_S_1
        iterate 40 (first | (with_reducible show bodyPost _ _ _ _ _ _) | (with_reducible refine wp_ret ?_) | go_values | go_skip | go_guarded | go_step | go_upon | go_back | skip)
        refine bodyPost_ret (v := .tuple #[.agg #[.int .i64 a, .int .i64 b, .int .i64 c], .bool true]) (by simp [results, Try.results24, go_sem, k_O_1_0, k_O_1_1, k_O_1_2]) rfl ⟨rfl, ?_⟩
        have HO := H_O_1.out
        (repeat' first | (with_reducible first | assumption | (apply Ne.symm; assumption) | apply Nat.le_refl | apply Nat.le_add_right | apply zL | apply zRf | apply Wx.box | apply Wx.box4 | apply zWa | apply Wx.drew | apply zWn | apply bx_drew | apply bx_drewN | apply bx_set3 | apply bx_set2 | apply bx_set4 | apply bx_set1) | ((with_reducible apply bx_new); (focus (go_size; done))) | (with_reducible first | apply zOl | apply zFa | apply zDn | apply zDr | apply zAl | apply zSt | refine zVi (by assumption) ?_ ?_) | go_size | omega)
end Go.Proofs.Ytgjppinjapdbeaa
