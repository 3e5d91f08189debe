/- The lower sum of the doubling, the divisor, validity: the reference. -/
import Derived.Test.YtijpfnkhaldfeaaXd2
namespace Go.Proofs.Ytijpfnkhaldfeaa
open Go.RowKit
set_option linter.unusedVariables false
set_option maxHeartbeats 1000000
set_option maxRecDepth 20000
set_option linter.unusedSimpArgs false
attribute [local go_sem] openAt openUpon
theorem xdBottom_any (A B x z : Int) (b b2 : Bool) (a a2 : Option Addr) (n c n2 c2 : Nat) (w : World) (hA : -1000 ≤ A ∧ A ≤ 1000) (hBB : -10000 ≤ B ∧ B ≤ 10000) (hx : Wx w b a n c x) (hz : Wx w b2 a2 n2 c2 z) (lx : ln x ≤ 80) (lz : ln z ≤ 80) :
    Calls Try.prog 31 #[.agg #[.int .i64 A, .int .i64 B], .agg #[.bool b, .slice a n c, .bool b2, .slice a2 n2 c2]] w (NewW w (botZ A B x z)) := by
  obtain ⟨x2, hx2⟩ : ∃ v, x * x = v := ⟨_, rfl⟩
  obtain ⟨z2, hz2⟩ : ∃ v, z * z = v := ⟨_, rfl⟩
  obtain ⟨p1, hp1⟩ : ∃ v, x2 * x = v := ⟨_, rfl⟩
  obtain ⟨p2, hp2⟩ : ∃ v, x * z2 = v := ⟨_, rfl⟩
  obtain ⟨p3, hp3⟩ : ∃ v, p2 * A = v := ⟨_, rfl⟩
  obtain ⟨p4, hp4⟩ : ∃ v, p1 + p3 = v := ⟨_, rfl⟩
  obtain ⟨q1, hq1⟩ : ∃ v, z * z2 = v := ⟨_, rfl⟩
  obtain ⟨q2, hq2⟩ : ∃ v, q1 * B = v := ⟨_, rfl⟩
  obtain ⟨q3, hq3⟩ : ∃ v, p4 + q2 = v := ⟨_, rfl⟩
  obtain ⟨r1, hr1⟩ : ∃ v, z * q3 = v := ⟨_, rfl⟩
  obtain ⟨t, ht0⟩ : ∃ v, botZ A B x z = v := ⟨_, rfl⟩
  have RT := Lib.hid (show r1 * 4 = t by rw [← ht0]; subst hx2 hz2 hp1 hp2 hp3 hp4 hq1 hq2 hq3 hr1; rfl)
  have lA := ln_small (a := A) (by omega) (by omega)
  have lB := ln_small (a := B) (by omega) (by omega)
  have m1 : ln x2 ≤ 160 := by rw [← hx2]; exact ln_mul_le lx lx
  have m2 : ln z2 ≤ 160 := by rw [← hz2]; exact ln_mul_le lz lz
  have m3 : ln p1 ≤ 240 := by rw [← hp1]; exact ln_mul_le m1 lx
  have m4 : ln p2 ≤ 240 := by rw [← hp2]; exact ln_mul_le lx m2
  have m5 : ln p3 ≤ 245 := by rw [← hp3]; exact ln_mul_le m4 lA
  have m6 : ln p4 ≤ 246 := by rw [← hp4]; exact ln_add_le (by omega) m5
  have m7 : ln q1 ≤ 240 := by rw [← hq1]; exact ln_mul_le lz m2
  have m8 : ln q2 ≤ 245 := by rw [← hq2]; exact ln_mul_le m7 lB
  have m9 : ln q3 ≤ 247 := by rw [← hq3]; exact ln_add_le m6 (by omega)
  have m10 : ln r1 ≤ 327 := by rw [← hr1]; exact ln_mul_le lz m9
  rw [ht0]
  have X2 := Lib.hid hx2; have Z2 := Lib.hid hz2; have P1 := Lib.hid hp1; have P2 := Lib.hid hp2; have P3 := Lib.hid hp3; have P4 := Lib.hid hp4
  have Q1 := Lib.hid hq1; have Q2 := Lib.hid hq2; have Q3 := Lib.hid hq3; have R1 := Lib.hid hr1
  clear hx2 hz2 hp1 hp2 hp3 hp4 hq1 hq2 hq3 hr1 ht0 lA lB
  have tok1 : True := trivial
  have tok2 : True := trivial
  have tok3 : True := trivial
  have tok4 : True := trivial
  have tok5 : True := trivial
  have tok6 : True := trivial
  have tok7 : True := trivial
  have tok8 : True := trivial
  have tok9 : True := trivial
  have tok10 : True := trivial
  have tok11 : True := trivial
  go_enter Try.func31, Try.ntmps31
  go_wp2_with fail
  refine chk (fun W => Below w.heap.size w W ∧ W.heap[w.heap.size]? = some (.cells #[.int .i64 A, .int .i64 B] 33 (0, 0)) ∧ W.heap[w.heap.size + 1]? = some (.cells #[.bool b, .slice a n c, .bool b2, .slice a2 n2 c2] 37 (0, 0)) ∧ W.heap[w.heap.size + 1 + 1]? = some (.cells #[.bool false, .slice none 0 0] 35 (0, 0)) ∧ Wx W b a n c x ∧ Wx W b2 a2 n2 c2 z) (by refine ⟨?_, ?_, ?_, ?_, ?_, ?_⟩ <;> (repeat' first | (with_reducible first | assumption | (apply Ne.symm; assumption) | apply Nat.le_refl | apply Nat.le_add_right | apply zL | apply zRf | apply Wx.box | apply Wx.box4 | apply zWa | apply Wx.drew | apply zWn | apply bx_drew | apply bx_drewN | apply bx_set3 | apply bx_set2 | apply bx_set4 | apply bx_set1) | ((with_reducible apply bx_new); (focus (go_size; done))) | (with_reducible first | apply zOl | apply zFa | apply zDn | apply zDr | apply zAl | apply zSt | refine zVi (by assumption) ?_ ?_) | go_size | omega)) ?_
  try clear hx
  try clear hz
  rintro w1 ⟨hB1, H_C_1, H_R_1, H_O_1, hx', hz'⟩
  obtain ⟨k_C_1_0, k_C_1_1, f_C_1, l_C_1⟩ := bk2 H_C_1
  replace H_C_1 := Lib.hid H_C_1
  obtain ⟨k_R_1_0, k_R_1_1, k_R_1_2, k_R_1_3, f_R_1, l_R_1⟩ := bk4 H_R_1
  replace H_R_1 := Lib.hid H_R_1
  obtain ⟨k_O_1_0, k_O_1_1, f_O_1, l_O_1⟩ := bk2 H_O_1
  replace H_O_1 := Lib.hid H_O_1
  have hx := hx'
  clear hx'
  have hz := hz'
  clear hz'
  go_region
  go_upto_region 2 with (fail)
  replace H_C_1 := H_C_1.out
  replace H_R_1 := H_R_1.out
  replace H_O_1 := H_O_1.out
  refine chk (fun W => Below w.heap.size w W ∧ W.heap[w.heap.size]? = some (.cells #[.int .i64 A, .int .i64 B] 33 (0, 0)) ∧ W.heap[w.heap.size + 1 + 1]? = some (.cells #[.bool false, .slice none 0 0] 35 (0, 0)) ∧ W.heap[w1.heap.size]? = some (.cells #[.bool b, .slice a n c] 35 (0, 0)) ∧ W.heap[w1.heap.size + 1]? = some (.cells #[.bool b2, .slice a2 n2 c2] 35 (0, 0)) ∧ Wx W b a n c x ∧ Wx W b2 a2 n2 c2 z) (by refine ⟨?_, ?_, ?_, ?_, ?_, ?_, ?_⟩ <;> (repeat' first | (with_reducible first | assumption | (apply Ne.symm; assumption) | apply Nat.le_refl | apply Nat.le_add_right | apply zL | apply zRf | apply Wx.box | apply Wx.box4 | apply zWa | apply Wx.drew | apply zWn | apply bx_drew | apply bx_drewN | apply bx_set3 | apply bx_set2 | apply bx_set4 | apply bx_set1) | ((with_reducible apply bx_new); (focus (go_size; done))) | (with_reducible first | apply zOl | apply zFa | apply zDn | apply zDr | apply zAl | apply zSt | refine zVi (by assumption) ?_ ?_) | go_size | omega)) ?_
  try clear hx
  try clear hz
  clear k_C_1_0 k_C_1_1 f_C_1 H_C_1
  clear k_R_1_0 k_R_1_1 k_R_1_2 k_R_1_3 f_R_1 H_R_1
  clear k_O_1_0 k_O_1_1 f_O_1 H_O_1
  clear hB1
  rintro w3 ⟨hB3, H_C_3, H_O_3, H_X_3, H_Z_3, hx', hz'⟩
  obtain ⟨k_C_3_0, k_C_3_1, f_C_3, l_C_3⟩ := bk2 H_C_3
  replace H_C_3 := Lib.hid H_C_3
  obtain ⟨k_O_3_0, k_O_3_1, f_O_3, l_O_3⟩ := bk2 H_O_3
  replace H_O_3 := Lib.hid H_O_3
  obtain ⟨k_X_3_0, k_X_3_1, f_X_3, l_X_3⟩ := bk2 H_X_3
  replace H_X_3 := Lib.hid H_X_3
  obtain ⟨k_Z_3_0, k_Z_3_1, f_Z_3, l_Z_3⟩ := bk2 H_Z_3
  replace H_Z_3 := Lib.hid H_Z_3
  have hx := hx'
  clear hx'
  have hz := hz'
  clear hz'
  generalize w1.heap.size + 1 = gz at *
  generalize w1.heap.size = gx at *
  clear w1
  rotate_left
  go_upto_region 2 with (fail)
  replace H_C_1 := H_C_1.out
  replace H_R_1 := H_R_1.out
  replace H_O_1 := H_O_1.out
  refine chk (fun W => Below w.heap.size w W ∧ W.heap[w.heap.size]? = some (.cells #[.int .i64 A, .int .i64 B] 33 (0, 0)) ∧ W.heap[w.heap.size + 1 + 1]? = some (.cells #[.bool false, .slice none 0 0] 35 (0, 0)) ∧ W.heap[w1.heap.size + 1]? = some (.cells #[.bool b, .slice a n c] 35 (0, 0)) ∧ W.heap[w1.heap.size]? = some (.cells #[.bool b2, .slice a2 n2 c2] 35 (0, 0)) ∧ Wx W b a n c x ∧ Wx W b2 a2 n2 c2 z) (by refine ⟨?_, ?_, ?_, ?_, ?_, ?_, ?_⟩ <;> (repeat' first | (with_reducible first | assumption | (apply Ne.symm; assumption) | apply Nat.le_refl | apply Nat.le_add_right | apply zL | apply zRf | apply Wx.box | apply Wx.box4 | apply zWa | apply Wx.drew | apply zWn | apply bx_drew | apply bx_drewN | apply bx_set3 | apply bx_set2 | apply bx_set4 | apply bx_set1) | ((with_reducible apply bx_new); (focus (go_size; done))) | (with_reducible first | apply zOl | apply zFa | apply zDn | apply zDr | apply zAl | apply zSt | refine zVi (by assumption) ?_ ?_) | go_size | omega)) ?_
  try clear hx
  try clear hz
  clear k_C_1_0 k_C_1_1 f_C_1 H_C_1
  clear k_R_1_0 k_R_1_1 k_R_1_2 k_R_1_3 f_R_1 H_R_1
  clear k_O_1_0 k_O_1_1 f_O_1 H_O_1
  clear hB1
  rintro w3 ⟨hB3, H_C_3, H_O_3, H_X_3, H_Z_3, hx', hz'⟩
  obtain ⟨k_C_3_0, k_C_3_1, f_C_3, l_C_3⟩ := bk2 H_C_3
  replace H_C_3 := Lib.hid H_C_3
  obtain ⟨k_O_3_0, k_O_3_1, f_O_3, l_O_3⟩ := bk2 H_O_3
  replace H_O_3 := Lib.hid H_O_3
  obtain ⟨k_X_3_0, k_X_3_1, f_X_3, l_X_3⟩ := bk2 H_X_3
  replace H_X_3 := Lib.hid H_X_3
  obtain ⟨k_Z_3_0, k_Z_3_1, f_Z_3, l_Z_3⟩ := bk2 H_Z_3
  replace H_Z_3 := Lib.hid H_Z_3
  have hx := hx'
  clear hx'
  have hz := hz'
  clear hz'
  generalize w1.heap.size + 1 = gx at *
  generalize w1.heap.size = gz at *
  clear w1
  all_goals
    go_wp2_with (first | (have _t := tok4; go_at_call 42; (with_reducible refine ((xdSquare_eq (hz.below (by repeat' first | (with_reducible first | apply zRf | assumption | apply zDn | apply zDr | apply zAl | apply zSt | refine zVi (by assumption) ?_ ?_) | go_size)) Z2.out (by omega))).mono ?_); rintro e w4 ⟨b3, a3, n3, c3, rfl, hs, f3, hb4⟩; clear tok4 _t; have hz4 := hb4.size; (try simp only [World.size_alloc, World.size_setCell, World.size_drew, World.size_drewN'] at hz4); (try (have kq := cellAt hb4 (w.heap.size) (by go_size); have k4_w_0_0 := kq 0; have k4_w_0_1 := kq 1; clear kq; have f4_w_0 := frozAt hb4 (w.heap.size) (by go_size); simp [go_sem, *] at k4_w_0_0 k4_w_0_1 f4_w_0)); (try have l4_w_0 : w.heap.size < w4.heap.size := by omega); (try (have kq := cellAt hb4 (w.heap.size + 1) (by go_size); have k4_w_1_0 := kq 0; have k4_w_1_1 := kq 1; have k4_w_1_2 := kq 2; have k4_w_1_3 := kq 3; clear kq; have f4_w_1 := frozAt hb4 (w.heap.size + 1) (by go_size); simp [go_sem, *] at k4_w_1_0 k4_w_1_1 k4_w_1_2 k4_w_1_3 f4_w_1)); (try have l4_w_1 : w.heap.size + 1 < w4.heap.size := by omega); (try (have kq := cellAt hb4 (w.heap.size + 1 + 1) (by go_size); have k4_w_2_0 := kq 0; have k4_w_2_1 := kq 1; clear kq; have f4_w_2 := frozAt hb4 (w.heap.size + 1 + 1) (by go_size); simp [go_sem, *] at k4_w_2_0 k4_w_2_1 f4_w_2)); (try have l4_w_2 : w.heap.size + 1 + 1 < w4.heap.size := by omega); (try clear k1_w_0_0 k1_w_0_1 f1_w_0); (try clear l1_w_0); (try clear k1_w_1_0 k1_w_1_1 k1_w_1_2 k1_w_1_3 f1_w_1); (try clear l1_w_1); (try clear k1_w_2_0 k1_w_2_1 f1_w_2); (try clear l1_w_2); (try clear k2_w_0_0 k2_w_0_1 f2_w_0); (try clear l2_w_0); (try clear k2_w_1_0 k2_w_1_1 k2_w_1_2 k2_w_1_3 f2_w_1); (try clear l2_w_1); (try clear k2_w_2_0 k2_w_2_1 f2_w_2); (try clear l2_w_2); (try clear k3_w_0_0 k3_w_0_1 f3_w_0); (try clear l3_w_0); (try clear k3_w_1_0 k3_w_1_1 k3_w_1_2 k3_w_1_3 f3_w_1); (try clear l3_w_1); (try clear k3_w_2_0 k3_w_2_1 f3_w_2); (try clear l3_w_2)))
    have H_C_4 := (hb4.block (w.heap.size) (blk_lt' H_C_3.out)).trans H_C_3.out
    clear k_C_3_0 k_C_3_1 f_C_3 H_C_3
    obtain ⟨k_C_4_0, k_C_4_1, f_C_4, l_C_4⟩ := bk2 H_C_4
    replace H_C_4 := Lib.hid H_C_4
    have H_O_4 := (hb4.block (w.heap.size + 1 + 1) (blk_lt' H_O_3.out)).trans H_O_3.out
    clear k_O_3_0 k_O_3_1 f_O_3 H_O_3
    obtain ⟨k_O_4_0, k_O_4_1, f_O_4, l_O_4⟩ := bk2 H_O_4
    replace H_O_4 := Lib.hid H_O_4
    have H_X_4 := (hb4.block (gx) (blk_lt' H_X_3.out)).trans H_X_3.out
    clear k_X_3_0 k_X_3_1 f_X_3 H_X_3
    obtain ⟨k_X_4_0, k_X_4_1, f_X_4, l_X_4⟩ := bk2 H_X_4
    replace H_X_4 := Lib.hid H_X_4
    have H_Z_4 := (hb4.block (gz) (blk_lt' H_Z_3.out)).trans H_Z_3.out
    clear k_Z_3_0 k_Z_3_1 f_Z_3 H_Z_3
    obtain ⟨k_Z_4_0, k_Z_4_1, f_Z_4, l_Z_4⟩ := bk2 H_Z_4
    replace H_Z_4 := Lib.hid H_Z_4
    replace hx := hx.below hb4
    replace hz := hz.below hb4
    have hB4 : Below w.heap.size w w4 := below_via hb4 (by assumption) (by first | exact hB3.size | go_size)
    have hg4 : w3.heap.size ≤ w4.heap.size := hb4.size
    have hg5 : w.heap.size ≤ w4.heap.size := hB4.size
    have nC : w.heap.size ≠ w4.heap.size := by omega
    have nO : w.heap.size + 1 + 1 ≠ w4.heap.size := by omega
    have nX : gx ≠ w4.heap.size := by omega
    have nZ : gz ≠ w4.heap.size := by omega
    replace H_C_4 := H_C_4.out
    replace H_O_4 := H_O_4.out
    replace H_X_4 := H_X_4.out
    replace H_Z_4 := H_Z_4.out
    refine chk (fun W => Below w.heap.size w W ∧ W.heap[w.heap.size]? = some (.cells #[.int .i64 A, .int .i64 B] 33 (0, 0)) ∧ W.heap[w.heap.size + 1 + 1]? = some (.cells #[.bool false, .slice none 0 0] 35 (0, 0)) ∧ W.heap[gx]? = some (.cells #[.bool b, .slice a n c] 35 (0, 0)) ∧ W.heap[gz]? = some (.cells #[.bool b2, .slice a2 n2 c2] 35 (0, 0)) ∧ W.heap[w4.heap.size]? = some (.cells #[.bool b3, .slice a3 n3 c3] 35 (0, 0)) ∧ Wx W b a n c x ∧ Wx W b2 a2 n2 c2 z ∧ Wx W b3 a3 n3 c3 z2) (by refine ⟨?_, ?_, ?_, ?_, ?_, ?_, ?_, ?_, ?_⟩ <;> (repeat' first | (with_reducible first | assumption | (apply Ne.symm; assumption) | apply Nat.le_refl | apply Nat.le_add_right | apply zL | apply zRf | apply Wx.box | apply Wx.box4 | apply zWa | apply Wx.drew | apply zWn | apply bx_drew | apply bx_drewN | apply bx_set3 | apply bx_set2 | apply bx_set4 | apply bx_set1) | ((with_reducible apply bx_new); (focus (go_size; done))) | (with_reducible first | apply zOl | apply zFa | apply zDn | apply zDr | apply zAl | apply zSt | refine zVi (by assumption) ?_ ?_) | go_size | omega)) ?_
    try clear hx
    try clear hz
    try clear hs
    clear k_C_4_0 k_C_4_1 f_C_4 H_C_4
    clear k_O_4_0 k_O_4_1 f_O_4 H_O_4
    clear k_X_4_0 k_X_4_1 f_X_4 H_X_4
    clear k_Z_4_0 k_Z_4_1 f_Z_4 H_Z_4
    clear hB4
    rintro w5 ⟨hB5, H_C_5, H_O_5, H_X_5, H_Z_5, H_S_5, hx', hz', hs'⟩
    obtain ⟨k_C_5_0, k_C_5_1, f_C_5, l_C_5⟩ := bk2 H_C_5
    replace H_C_5 := Lib.hid H_C_5
    obtain ⟨k_O_5_0, k_O_5_1, f_O_5, l_O_5⟩ := bk2 H_O_5
    replace H_O_5 := Lib.hid H_O_5
    obtain ⟨k_X_5_0, k_X_5_1, f_X_5, l_X_5⟩ := bk2 H_X_5
    replace H_X_5 := Lib.hid H_X_5
    obtain ⟨k_Z_5_0, k_Z_5_1, f_Z_5, l_Z_5⟩ := bk2 H_Z_5
    replace H_Z_5 := Lib.hid H_Z_5
    obtain ⟨k_S_5_0, k_S_5_1, f_S_5, l_S_5⟩ := bk2 H_S_5
    replace H_S_5 := Lib.hid H_S_5
    have hx := hx'
    clear hx'
    have hz := hz'
    clear hz'
    have hs := hs'
    clear hs'
    clear f3
    generalize w4.heap.size = gs at *
    refine wp_open (n := 12) (by kernel_rfl) (by kernel_rfl) (by kernel_rfl) (by kernel_rfl) ?_
    simp only [List.take_succ_cons, List.take_zero]
    apply wpS_quiet
    · intro γ W hW hp
      have hs := hW.size
      (try simp only [World.size_alloc, World.size_setCell, World.size_drew, World.size_drewN'] at hs)
      have kx_0 := fun x : Over W => ((cellAt x.lies (gx) (by omega) 0).trans (cellAt hW (gx) (by first | omega | go_size) 0)).trans k_X_5_0
      have kx_1 := fun x : Over W => ((cellAt x.lies (gx) (by omega) 1).trans (cellAt hW (gx) (by first | omega | go_size) 1)).trans k_X_5_1
      clear hW hp
      refine ⟨rfl, ?_⟩
      go_big_quiet_op
      first | exact rfl
    · exact locS_const _
    try simp only [Act.put, List.setIfInBounds_toArray, List.set_cons_succ, List.set_cons_zero, Nat.reduceAdd]
    apply wpS_open (openW w.heap.size x2)
    · intro γ W hW hp
      refine ⟨rfl, ?_⟩
      go_simp
      refine plainNew rfl ?_
      exact open_W (xdSquare_eq (hx.below hW) X2.out (by omega)) (by (have := hW.size; (try simp only [World.size_alloc, World.size_setCell, World.size_drew, World.size_drewN'] at this); omega))
    try simp only [Act.put, List.setIfInBounds_toArray, List.set_cons_succ, List.set_cons_zero, Nat.reduceAdd]
    apply wpS_quiet
    · intro γ W hW hp
      have hs := hW.size
      (try simp only [World.size_alloc, World.size_setCell, World.size_drew, World.size_drewN'] at hs)
      have kx_0 := fun x : Over W => ((cellAt x.lies (gx) (by omega) 0).trans (cellAt hW (gx) (by first | omega | go_size) 0)).trans k_X_5_0
      have kx_1 := fun x : Over W => ((cellAt x.lies (gx) (by omega) 1).trans (cellAt hW (gx) (by first | omega | go_size) 1)).trans k_X_5_1
      clear hW hp
      refine ⟨rfl, ?_⟩
      go_big_quiet_op
      first | exact rfl
    · exact locS_const _
    try simp only [Act.put, List.setIfInBounds_toArray, List.set_cons_succ, List.set_cons_zero, Nat.reduceAdd]
    apply wpS_open (openW w.heap.size p1)
    · intro γ W hW hp
      have hp_1 := hp _ (List.mem_append_right _ (List.mem_singleton.2 rfl)) (by kernel_rfl)
      dsimp only at hp_1
      refine ⟨rfl, ?_⟩
      go_simp
      refine plainNew rfl ?_
      obtain ⟨b4, a4, n4, c4, e4, h4, _⟩ := hp_1
      rw [e4]
      exact open_W (bgMul_eq h4 (hx.below hW) P1.out (by omega) (by omega)) (by (have := hW.size; (try simp only [World.size_alloc, World.size_setCell, World.size_drew, World.size_drewN'] at this); omega))
    try simp only [Act.put, List.setIfInBounds_toArray, List.set_cons_succ, List.set_cons_zero, Nat.reduceAdd]
    apply wpS_quiet
    · intro γ W hW hp
      have hs := hW.size
      (try simp only [World.size_alloc, World.size_setCell, World.size_drew, World.size_drewN'] at hs)
      have kx_0 := fun x : Over W => ((cellAt x.lies (gx) (by omega) 0).trans (cellAt hW (gx) (by first | omega | go_size) 0)).trans k_X_5_0
      have kx_1 := fun x : Over W => ((cellAt x.lies (gx) (by omega) 1).trans (cellAt hW (gx) (by first | omega | go_size) 1)).trans k_X_5_1
      clear hW hp
      refine ⟨rfl, ?_⟩
      go_big_quiet_op
      first | exact rfl
    · exact locS_const _
    try simp only [Act.put, List.setIfInBounds_toArray, List.set_cons_succ, List.set_cons_zero, Nat.reduceAdd]
    apply wpS_quiet
    · intro γ W hW hp
      have hs := hW.size
      (try simp only [World.size_alloc, World.size_setCell, World.size_drew, World.size_drewN'] at hs)
      have kx_0 := fun x : Over W => ((cellAt x.lies (gs) (by omega) 0).trans (cellAt hW (gs) (by first | omega | go_size) 0)).trans k_S_5_0
      have kx_1 := fun x : Over W => ((cellAt x.lies (gs) (by omega) 1).trans (cellAt hW (gs) (by first | omega | go_size) 1)).trans k_S_5_1
      clear hW hp
      refine ⟨rfl, ?_⟩
      go_big_quiet_op
      first | exact rfl
    · exact locS_const _
    try simp only [Act.put, List.setIfInBounds_toArray, List.set_cons_succ, List.set_cons_zero, Nat.reduceAdd]
    apply wpS_open (openW w.heap.size p2)
    · intro γ W hW hp
      refine ⟨rfl, ?_⟩
      go_simp
      refine plainNew rfl ?_
      exact open_W (bgMul_eq (hx.below hW) (hs.below hW) P2.out (by omega) (by omega)) (by (have := hW.size; (try simp only [World.size_alloc, World.size_setCell, World.size_drew, World.size_drewN'] at this); omega))
    try simp only [Act.put, List.setIfInBounds_toArray, List.set_cons_succ, List.set_cons_zero, Nat.reduceAdd]
    apply wpS_quiet
    · intro γ W hW hp
      refine ⟨rfl, ?_⟩
      go_big_quiet_op
      first | exact rfl
    · exact locS_const _
    try simp only [Act.put, List.setIfInBounds_toArray, List.set_cons_succ, List.set_cons_zero, Nat.reduceAdd]
    apply wpS_quiet
    · intro γ W hW hp
      have hs := hW.size
      (try simp only [World.size_alloc, World.size_setCell, World.size_drew, World.size_drewN'] at hs)
      have kx_0 := fun x : Over W => ((cellAt x.lies (w.heap.size) (by omega) 0).trans (cellAt hW (w.heap.size) (by first | omega | go_size) 0)).trans k_C_5_0
      have kx_1 := fun x : Over W => ((cellAt x.lies (w.heap.size) (by omega) 1).trans (cellAt hW (w.heap.size) (by first | omega | go_size) 1)).trans k_C_5_1
      clear hW hp
      refine ⟨rfl, ?_⟩
      go_big_quiet_op
      first | exact rfl
    · exact locS_const _
    try simp only [Act.put, List.setIfInBounds_toArray, List.set_cons_succ, List.set_cons_zero, Nat.reduceAdd]
    apply wpS_open (openW w.heap.size p3)
    · intro γ W hW hp
      have hp_6 := hp _ (List.mem_append_right _ (List.mem_singleton.2 rfl)) (by kernel_rfl)
      dsimp only at hp_6
      refine ⟨rfl, ?_⟩
      go_simp
      refine plainNew rfl ?_
      obtain ⟨b4, a4, n4, c4, e4, h4, _⟩ := hp_6
      rw [e4]
      exact open_W (bgTimes_eq h4 P3.out (by omega) (by omega)) (by (have := hW.size; (try simp only [World.size_alloc, World.size_setCell, World.size_drew, World.size_drewN'] at this); omega))
    try simp only [Act.put, List.setIfInBounds_toArray, List.set_cons_succ, List.set_cons_zero, Nat.reduceAdd]
    apply wpS_open (openW w.heap.size p4)
    · intro γ W hW hp
      have hp_3 := hp _ (List.mem_append_left _ (List.mem_append_left _ (List.mem_append_right _ (List.mem_singleton.2 rfl)))) (by kernel_rfl)
      dsimp only at hp_3
      have hp_9 := hp _ (List.mem_append_right _ (List.mem_singleton.2 rfl)) (by kernel_rfl)
      dsimp only at hp_9
      refine ⟨rfl, ?_⟩
      go_simp
      refine plainNew rfl ?_
      obtain ⟨b4, a4, n4, c4, e4, h4, _⟩ := hp_3
      obtain ⟨b5, a5, n5, c5, e5, h5, _⟩ := hp_9
      rw [e4, e5]
      exact open_W (bgAdd_eq h4 h5 P4.out (by omega) (by omega)) (by (have := hW.size; (try simp only [World.size_alloc, World.size_setCell, World.size_drew, World.size_drewN'] at this); omega))
    try simp only [Act.put, List.setIfInBounds_toArray, List.set_cons_succ, List.set_cons_zero, Nat.reduceAdd]
    apply wpS_open (newBox _ _ _)
    · intro γ W hW hp
      refine ⟨rfl, ?_⟩
      go_simp
      exact ⟨⟨⟨_, rfl, hW.size, heap_alloc_new _ _⟩, fun _ => ⟨_, rfl, Nat.le_refl _, by simp⟩⟩, (Below.refl _ _).alloc (Nat.le_refl _) _⟩
    try simp only [Act.put, List.setIfInBounds_toArray, List.set_cons_succ, List.set_cons_zero, Nat.reduceAdd]
    apply wpS_end
    intro γ w6 hb6 hG6 hA6
    have hg6_1 := hG6 _ (List.mem_append_left _ (List.mem_append_left _ (List.mem_append_left _ (List.mem_append_left _ (List.mem_append_left _ (List.mem_append_right _ (List.mem_singleton.2 rfl)))))))
    dsimp only at hg6_1
    have hg6_3 := hG6 _ (List.mem_append_left _ (List.mem_append_left _ (List.mem_append_left _ (List.mem_append_left _ (List.mem_append_right _ (List.mem_singleton.2 rfl))))))
    dsimp only at hg6_3
    have hg6_6 := hG6 _ (List.mem_append_left _ (List.mem_append_left _ (List.mem_append_left _ (List.mem_append_right _ (List.mem_singleton.2 rfl)))))
    dsimp only at hg6_6
    have hg6_9 := hG6 _ (List.mem_append_left _ (List.mem_append_left _ (List.mem_append_right _ (List.mem_singleton.2 rfl))))
    dsimp only at hg6_9
    have hg6_10 := hG6 _ (List.mem_append_left _ (List.mem_append_right _ (List.mem_singleton.2 rfl)))
    dsimp only at hg6_10
    obtain ⟨g6_11, e6_11, l6_11, k6_11⟩ := hG6 _ (List.mem_append_right _ (List.mem_singleton.2 rfl))
    dsimp only at e6_11 l6_11 k6_11
    have kb6_11 := fun o => blk_cell k6_11 o
    have fb6_11 := fun o => blk_frozen k6_11 o
    have lb6_11 := blk_lt' k6_11
    have ne6_11_C : w.heap.size ≠ g6_11 := Nat.ne_of_lt (Nat.lt_of_lt_of_le l_C_5 l6_11)
    have ne6_11_O : w.heap.size + 1 + 1 ≠ g6_11 := Nat.ne_of_lt (Nat.lt_of_lt_of_le l_O_5 l6_11)
    have ne6_11_X : gx ≠ g6_11 := Nat.ne_of_lt (Nat.lt_of_lt_of_le l_X_5 l6_11)
    have ne6_11_Z : gz ≠ g6_11 := Nat.ne_of_lt (Nat.lt_of_lt_of_le l_Z_5 l6_11)
    have ne6_11_S : gs ≠ g6_11 := Nat.ne_of_lt (Nat.lt_of_lt_of_le l_S_5 l6_11)
    have lw6_11 : w.heap.size ≤ g6_11 := Nat.le_trans hB5.size l6_11
    clear hG6 hA6
    try simp only [e6_11]
    clear e6_11
    simp only [List.drop_succ_cons, List.drop_zero]
    have hz6 := hb6.size
    (try simp only [World.size_alloc, World.size_setCell, World.size_drew, World.size_drewN'] at hz6)
    obtain ⟨b5, a5, n5, c5, e5, hu, -⟩ := hg6_10
    simp only [e5]
    clear e5 hg6_1 hg6_3 hg6_6 hg6_9
    have H_C_6 := (hb6.block (w.heap.size) (blk_lt' H_C_5.out)).trans H_C_5.out
    clear k_C_5_0 k_C_5_1 f_C_5 H_C_5
    obtain ⟨k_C_6_0, k_C_6_1, f_C_6, l_C_6⟩ := bk2 H_C_6
    replace H_C_6 := Lib.hid H_C_6
    have H_O_6 := (hb6.block (w.heap.size + 1 + 1) (blk_lt' H_O_5.out)).trans H_O_5.out
    clear k_O_5_0 k_O_5_1 f_O_5 H_O_5
    obtain ⟨k_O_6_0, k_O_6_1, f_O_6, l_O_6⟩ := bk2 H_O_6
    replace H_O_6 := Lib.hid H_O_6
    have H_X_6 := (hb6.block (gx) (blk_lt' H_X_5.out)).trans H_X_5.out
    clear k_X_5_0 k_X_5_1 f_X_5 H_X_5
    obtain ⟨k_X_6_0, k_X_6_1, f_X_6, l_X_6⟩ := bk2 H_X_6
    replace H_X_6 := Lib.hid H_X_6
    have H_Z_6 := (hb6.block (gz) (blk_lt' H_Z_5.out)).trans H_Z_5.out
    clear k_Z_5_0 k_Z_5_1 f_Z_5 H_Z_5
    obtain ⟨k_Z_6_0, k_Z_6_1, f_Z_6, l_Z_6⟩ := bk2 H_Z_6
    replace H_Z_6 := Lib.hid H_Z_6
    have H_S_6 := (hb6.block (gs) (blk_lt' H_S_5.out)).trans H_S_5.out
    clear k_S_5_0 k_S_5_1 f_S_5 H_S_5
    obtain ⟨k_S_6_0, k_S_6_1, f_S_6, l_S_6⟩ := bk2 H_S_6
    replace H_S_6 := Lib.hid H_S_6
    replace hx := hx.below hb6
    replace hz := hz.below hb6
    replace hs := hs.below hb6
    have hB6 : Below w.heap.size w w6 := below_via hb6 (by assumption) (by first | exact hB5.size | go_size)
    go_wp2_with fail
    replace H_C_6 := H_C_6.out
    replace H_O_6 := H_O_6.out
    replace H_X_6 := H_X_6.out
    replace H_Z_6 := H_Z_6.out
    replace H_S_6 := H_S_6.out
    refine chk (fun W => Below w.heap.size w W ∧ W.heap[w.heap.size]? = some (.cells #[.int .i64 A, .int .i64 B] 33 (0, 0)) ∧ W.heap[w.heap.size + 1 + 1]? = some (.cells #[.bool false, .slice none 0 0] 35 (0, 0)) ∧ W.heap[gz]? = some (.cells #[.bool b2, .slice a2 n2 c2] 35 (0, 0)) ∧ W.heap[gs]? = some (.cells #[.bool b3, .slice a3 n3 c3] 35 (0, 0)) ∧ W.heap[g6_11]? = some (.cells #[.bool b5, .slice a5 n5 c5] 35 (0, 0)) ∧ Wx W b2 a2 n2 c2 z ∧ Wx W b3 a3 n3 c3 z2 ∧ Wx W b5 a5 n5 c5 p4) (by refine ⟨?_, ?_, ?_, ?_, ?_, ?_, ?_, ?_, ?_⟩ <;> (repeat' first | (with_reducible first | assumption | (apply Ne.symm; assumption) | apply Nat.le_refl | apply Nat.le_add_right | apply zL | apply zRf | apply Wx.box | apply Wx.box4 | apply zWa | apply Wx.drew | apply zWn | apply bx_drew | apply bx_drewN | apply bx_set3 | apply bx_set2 | apply bx_set4 | apply bx_set1) | ((with_reducible apply bx_new); (focus (go_size; done))) | (with_reducible first | apply zOl | apply zFa | apply zDn | apply zDr | apply zAl | apply zSt | refine zVi (by assumption) ?_ ?_) | go_size | omega)) ?_
    try clear hz
    try clear hs
    try clear hu
    clear k_C_6_0 k_C_6_1 f_C_6 H_C_6
    clear k_O_6_0 k_O_6_1 f_O_6 H_O_6
    clear k_X_6_0 k_X_6_1 f_X_6 H_X_6
    clear k_Z_6_0 k_Z_6_1 f_Z_6 H_Z_6
    clear k_S_6_0 k_S_6_1 f_S_6 H_S_6
    clear hB6
    try clear kb6_11
    try clear fb6_11
    try clear k6_11
    rintro w7 ⟨hB7, H_C_7, H_O_7, H_Z_7, H_S_7, H_U_7, hz', hs', hu'⟩
    obtain ⟨k_C_7_0, k_C_7_1, f_C_7, l_C_7⟩ := bk2 H_C_7
    replace H_C_7 := Lib.hid H_C_7
    obtain ⟨k_O_7_0, k_O_7_1, f_O_7, l_O_7⟩ := bk2 H_O_7
    replace H_O_7 := Lib.hid H_O_7
    obtain ⟨k_Z_7_0, k_Z_7_1, f_Z_7, l_Z_7⟩ := bk2 H_Z_7
    replace H_Z_7 := Lib.hid H_Z_7
    obtain ⟨k_S_7_0, k_S_7_1, f_S_7, l_S_7⟩ := bk2 H_S_7
    replace H_S_7 := Lib.hid H_S_7
    obtain ⟨k_U_7_0, k_U_7_1, f_U_7, l_U_7⟩ := bk2 H_U_7
    replace H_U_7 := Lib.hid H_U_7
    have hz := hz'
    clear hz'
    have hs := hs'
    clear hs'
    have hu := hu'
    clear hu'
    refine wp_open (n := 8) (by kernel_rfl) (by kernel_rfl) (by kernel_rfl) (by kernel_rfl) ?_
    simp only [List.take_succ_cons, List.take_zero]
    apply wpS_quiet
    · intro γ W hW hp
      have hs := hW.size
      (try simp only [World.size_alloc, World.size_setCell, World.size_drew, World.size_drewN'] at hs)
      have kx_0 := fun x : Over W => ((cellAt x.lies (g6_11) (by omega) 0).trans (cellAt hW (g6_11) (by first | omega | go_size) 0)).trans k_U_7_0
      have kx_1 := fun x : Over W => ((cellAt x.lies (g6_11) (by omega) 1).trans (cellAt hW (g6_11) (by first | omega | go_size) 1)).trans k_U_7_1
      clear hW hp
      refine ⟨rfl, ?_⟩
      go_big_quiet_op
      first | exact rfl
    · exact locS_const _
    try simp only [Act.put, List.setIfInBounds_toArray, List.set_cons_succ, List.set_cons_zero, Nat.reduceAdd]
    apply wpS_quiet
    · intro γ W hW hp
      have hs := hW.size
      (try simp only [World.size_alloc, World.size_setCell, World.size_drew, World.size_drewN'] at hs)
      have kx_0 := fun x : Over W => ((cellAt x.lies (gz) (by omega) 0).trans (cellAt hW (gz) (by first | omega | go_size) 0)).trans k_Z_7_0
      have kx_1 := fun x : Over W => ((cellAt x.lies (gz) (by omega) 1).trans (cellAt hW (gz) (by first | omega | go_size) 1)).trans k_Z_7_1
      clear hW hp
      refine ⟨rfl, ?_⟩
      go_big_quiet_op
      first | exact rfl
    · exact locS_const _
    try simp only [Act.put, List.setIfInBounds_toArray, List.set_cons_succ, List.set_cons_zero, Nat.reduceAdd]
    apply wpS_quiet
    · intro γ W hW hp
      have hs := hW.size
      (try simp only [World.size_alloc, World.size_setCell, World.size_drew, World.size_drewN'] at hs)
      have kx_0 := fun x : Over W => ((cellAt x.lies (gs) (by omega) 0).trans (cellAt hW (gs) (by first | omega | go_size) 0)).trans k_S_7_0
      have kx_1 := fun x : Over W => ((cellAt x.lies (gs) (by omega) 1).trans (cellAt hW (gs) (by first | omega | go_size) 1)).trans k_S_7_1
      clear hW hp
      refine ⟨rfl, ?_⟩
      go_big_quiet_op
      first | exact rfl
    · exact locS_const _
    try simp only [Act.put, List.setIfInBounds_toArray, List.set_cons_succ, List.set_cons_zero, Nat.reduceAdd]
    apply wpS_open (openW w.heap.size q1)
    · intro γ W hW hp
      refine ⟨rfl, ?_⟩
      go_simp
      refine plainNew rfl ?_
      exact open_W (bgMul_eq (hz.below hW) (hs.below hW) Q1.out (by omega) (by omega)) (by (have := hW.size; (try simp only [World.size_alloc, World.size_setCell, World.size_drew, World.size_drewN'] at this); omega))
    try simp only [Act.put, List.setIfInBounds_toArray, List.set_cons_succ, List.set_cons_zero, Nat.reduceAdd]
    apply wpS_quiet
    · intro γ W hW hp
      refine ⟨rfl, ?_⟩
      go_big_quiet_op
      first | exact rfl
    · exact locS_const _
    try simp only [Act.put, List.setIfInBounds_toArray, List.set_cons_succ, List.set_cons_zero, Nat.reduceAdd]
    apply wpS_quiet
    · intro γ W hW hp
      have hs := hW.size
      (try simp only [World.size_alloc, World.size_setCell, World.size_drew, World.size_drewN'] at hs)
      have kx_0 := fun x : Over W => ((cellAt x.lies (w.heap.size) (by omega) 0).trans (cellAt hW (w.heap.size) (by first | omega | go_size) 0)).trans k_C_7_0
      have kx_1 := fun x : Over W => ((cellAt x.lies (w.heap.size) (by omega) 1).trans (cellAt hW (w.heap.size) (by first | omega | go_size) 1)).trans k_C_7_1
      clear hW hp
      refine ⟨rfl, ?_⟩
      go_big_quiet_op
      first | exact rfl
    · exact locS_const _
    try simp only [Act.put, List.setIfInBounds_toArray, List.set_cons_succ, List.set_cons_zero, Nat.reduceAdd]
    apply wpS_open (openW w.heap.size q2)
    · intro γ W hW hp
      have hp_3 := hp _ (List.mem_append_right _ (List.mem_singleton.2 rfl)) (by kernel_rfl)
      dsimp only at hp_3
      refine ⟨rfl, ?_⟩
      go_simp
      refine plainNew rfl ?_
      obtain ⟨b5, a5, n5, c5, e5, h5, _⟩ := hp_3
      rw [e5]
      exact open_W (bgTimes_eq h5 Q2.out (by omega) (by omega)) (by (have := hW.size; (try simp only [World.size_alloc, World.size_setCell, World.size_drew, World.size_drewN'] at this); omega))
    try simp only [Act.put, List.setIfInBounds_toArray, List.set_cons_succ, List.set_cons_zero, Nat.reduceAdd]
    apply wpS_open (openW w.heap.size q3)
    · intro γ W hW hp
      have hp_6 := hp _ (List.mem_append_right _ (List.mem_singleton.2 rfl)) (by kernel_rfl)
      dsimp only at hp_6
      refine ⟨rfl, ?_⟩
      go_simp
      refine plainNew rfl ?_
      obtain ⟨b5, a5, n5, c5, e5, h5, _⟩ := hp_6
      rw [e5]
      exact open_W (bgAdd_eq (hu.below hW) h5 Q3.out (by omega) (by omega)) (by (have := hW.size; (try simp only [World.size_alloc, World.size_setCell, World.size_drew, World.size_drewN'] at this); omega))
    try simp only [Act.put, List.setIfInBounds_toArray, List.set_cons_succ, List.set_cons_zero, Nat.reduceAdd]
    apply wpS_end
    intro γ w8 hb8 hG8 hA8
    have hg8_3 := hG8 _ (List.mem_append_left _ (List.mem_append_left _ (List.mem_append_right _ (List.mem_singleton.2 rfl))))
    dsimp only at hg8_3
    have hg8_6 := hG8 _ (List.mem_append_left _ (List.mem_append_right _ (List.mem_singleton.2 rfl)))
    dsimp only at hg8_6
    have hg8_7 := hG8 _ (List.mem_append_right _ (List.mem_singleton.2 rfl))
    dsimp only at hg8_7
    clear hG8 hA8
    simp only [List.drop_succ_cons, List.drop_zero]
    have hz8 := hb8.size
    (try simp only [World.size_alloc, World.size_setCell, World.size_drew, World.size_drewN'] at hz8)
    obtain ⟨b6, a6, n6, c6, e6, hv, -⟩ := hg8_7
    simp only [e6]
    clear e6 hg8_3 hg8_6
    have H_C_8 := (hb8.block (w.heap.size) (blk_lt' H_C_7.out)).trans H_C_7.out
    clear k_C_7_0 k_C_7_1 f_C_7 H_C_7
    obtain ⟨k_C_8_0, k_C_8_1, f_C_8, l_C_8⟩ := bk2 H_C_8
    replace H_C_8 := Lib.hid H_C_8
    have H_O_8 := (hb8.block (w.heap.size + 1 + 1) (blk_lt' H_O_7.out)).trans H_O_7.out
    clear k_O_7_0 k_O_7_1 f_O_7 H_O_7
    obtain ⟨k_O_8_0, k_O_8_1, f_O_8, l_O_8⟩ := bk2 H_O_8
    replace H_O_8 := Lib.hid H_O_8
    have H_Z_8 := (hb8.block (gz) (blk_lt' H_Z_7.out)).trans H_Z_7.out
    clear k_Z_7_0 k_Z_7_1 f_Z_7 H_Z_7
    obtain ⟨k_Z_8_0, k_Z_8_1, f_Z_8, l_Z_8⟩ := bk2 H_Z_8
    replace H_Z_8 := Lib.hid H_Z_8
    have H_S_8 := (hb8.block (gs) (blk_lt' H_S_7.out)).trans H_S_7.out
    clear k_S_7_0 k_S_7_1 f_S_7 H_S_7
    obtain ⟨k_S_8_0, k_S_8_1, f_S_8, l_S_8⟩ := bk2 H_S_8
    replace H_S_8 := Lib.hid H_S_8
    have H_U_8 := (hb8.block (g6_11) (blk_lt' H_U_7.out)).trans H_U_7.out
    clear k_U_7_0 k_U_7_1 f_U_7 H_U_7
    obtain ⟨k_U_8_0, k_U_8_1, f_U_8, l_U_8⟩ := bk2 H_U_8
    replace H_U_8 := Lib.hid H_U_8
    replace hz := hz.below hb8
    replace hs := hs.below hb8
    replace hu := hu.below hb8
    have hB8 : Below w.heap.size w w8 := below_via hb8 (by assumption) (by first | exact hB7.size | go_size)
    go_upto_region 5 with (fail)
    replace H_C_8 := H_C_8.out
    replace H_O_8 := H_O_8.out
    replace H_Z_8 := H_Z_8.out
    replace H_S_8 := H_S_8.out
    replace H_U_8 := H_U_8.out
    refine chk (fun W => Below w.heap.size w W ∧ W.heap[w.heap.size + 1 + 1]? = some (.cells #[.bool false, .slice none 0 0] 35 (0, 0)) ∧ W.heap[gz]? = some (.cells #[.bool b2, .slice a2 n2 c2] 35 (0, 0)) ∧ W.heap[g6_11]? = some (.cells #[.bool b6, .slice a6 n6 c6] 35 (0, 0)) ∧ Wx W b2 a2 n2 c2 z ∧ Wx W b6 a6 n6 c6 q3) (by refine ⟨?_, ?_, ?_, ?_, ?_, ?_⟩ <;> (repeat' first | (with_reducible first | assumption | (apply Ne.symm; assumption) | apply Nat.le_refl | apply Nat.le_add_right | apply zL | apply zRf | apply Wx.box | apply Wx.box4 | apply zWa | apply Wx.drew | apply zWn | apply bx_drew | apply bx_drewN | apply bx_set3 | apply bx_set2 | apply bx_set4 | apply bx_set1) | ((with_reducible apply bx_new); (focus (go_size; done))) | (with_reducible first | apply zOl | apply zFa | apply zDn | apply zDr | apply zAl | apply zSt | refine zVi (by assumption) ?_ ?_) | go_size | omega)) ?_
    try clear hz
    try clear hv
    clear k_C_8_0 k_C_8_1 f_C_8 H_C_8
    clear k_O_8_0 k_O_8_1 f_O_8 H_O_8
    clear k_Z_8_0 k_Z_8_1 f_Z_8 H_Z_8
    clear k_S_8_0 k_S_8_1 f_S_8 H_S_8
    clear k_U_8_0 k_U_8_1 f_U_8 H_U_8
    clear hB8
    rintro w9 ⟨hB9, H_O_9, H_Z_9, H_U_9, hz', hv'⟩
    obtain ⟨k_O_9_0, k_O_9_1, f_O_9, l_O_9⟩ := bk2 H_O_9
    replace H_O_9 := Lib.hid H_O_9
    obtain ⟨k_Z_9_0, k_Z_9_1, f_Z_9, l_Z_9⟩ := bk2 H_Z_9
    replace H_Z_9 := Lib.hid H_Z_9
    obtain ⟨k_U_9_0, k_U_9_1, f_U_9, l_U_9⟩ := bk2 H_U_9
    replace H_U_9 := Lib.hid H_U_9
    have hz := hz'
    clear hz'
    have hv := hv'
    clear hv'
    clear hA hBB hx lx m1 m2 m3 m4 m5 m6 m7 m8
    go_wp2_with (first | (have _t := tok10; go_at_call 45; (with_reducible refine ((bgMul_eq (hz.below (by repeat' first | (with_reducible first | apply zRf | assumption | apply zDn | apply zDr | apply zAl | apply zSt | refine zVi (by assumption) ?_ ?_) | go_size)) (hv.below (by repeat' first | (with_reducible first | apply zRf | assumption | apply zDn | apply zDr | apply zAl | apply zSt | refine zVi (by assumption) ?_ ?_) | go_size)) R1.out (by omega) (by omega))).mono ?_); rintro e w10 ⟨b6, a6, n6, c6, rfl, h6, f6, hb10⟩; clear tok10 _t; have hz10 := hb10.size; (try simp only [World.size_alloc, World.size_setCell, World.size_drew, World.size_drewN'] at hz10); (try (have kq := cellAt hb10 (w.heap.size) (by go_size); have k10_w_0_0 := kq 0; have k10_w_0_1 := kq 1; clear kq; have f10_w_0 := frozAt hb10 (w.heap.size) (by go_size); simp [go_sem, *] at k10_w_0_0 k10_w_0_1 f10_w_0)); (try have l10_w_0 : w.heap.size < w10.heap.size := by omega); (try (have kq := cellAt hb10 (w.heap.size + 1) (by go_size); have k10_w_1_0 := kq 0; have k10_w_1_1 := kq 1; have k10_w_1_2 := kq 2; have k10_w_1_3 := kq 3; clear kq; have f10_w_1 := frozAt hb10 (w.heap.size + 1) (by go_size); simp [go_sem, *] at k10_w_1_0 k10_w_1_1 k10_w_1_2 k10_w_1_3 f10_w_1)); (try have l10_w_1 : w.heap.size + 1 < w10.heap.size := by omega); (try (have kq := cellAt hb10 (w.heap.size + 1 + 1) (by go_size); have k10_w_2_0 := kq 0; have k10_w_2_1 := kq 1; clear kq; have f10_w_2 := frozAt hb10 (w.heap.size + 1 + 1) (by go_size); simp [go_sem, *] at k10_w_2_0 k10_w_2_1 f10_w_2)); (try have l10_w_2 : w.heap.size + 1 + 1 < w10.heap.size := by omega); (try clear k6_w_0_0 k6_w_0_1 f6_w_0); (try clear l6_w_0); (try clear k6_w_1_0 k6_w_1_1 k6_w_1_2 k6_w_1_3 f6_w_1); (try clear l6_w_1); (try clear k6_w_2_0 k6_w_2_1 f6_w_2); (try clear l6_w_2); (try clear k7_w_0_0 k7_w_0_1 f7_w_0); (try clear l7_w_0); (try clear k7_w_1_0 k7_w_1_1 k7_w_1_2 k7_w_1_3 f7_w_1); (try clear l7_w_1); (try clear k7_w_2_0 k7_w_2_1 f7_w_2); (try clear l7_w_2); (try clear k8_w_0_0 k8_w_0_1 f8_w_0); (try clear l8_w_0); (try clear k8_w_1_0 k8_w_1_1 k8_w_1_2 k8_w_1_3 f8_w_1); (try clear l8_w_1); (try clear k8_w_2_0 k8_w_2_1 f8_w_2); (try clear l8_w_2); (try clear k9_w_0_0 k9_w_0_1 f9_w_0); (try clear l9_w_0); (try clear k9_w_1_0 k9_w_1_1 k9_w_1_2 k9_w_1_3 f9_w_1); (try clear l9_w_1); (try clear k9_w_2_0 k9_w_2_1 f9_w_2); (try clear l9_w_2)) | (have _t := tok11; go_at_call 44; (with_reducible refine ((bgTimes_eq h6 RT.out (by omega) (by omega))).mono ?_); rintro e w11 ⟨b7, a7, n7, c7, rfl, h7, f7, hb11⟩; clear tok11 _t; have hz11 := hb11.size; (try simp only [World.size_alloc, World.size_setCell, World.size_drew, World.size_drewN'] at hz11); (try (have kq := cellAt hb11 (w.heap.size) (by go_size); have k11_w_0_0 := kq 0; have k11_w_0_1 := kq 1; clear kq; have f11_w_0 := frozAt hb11 (w.heap.size) (by go_size); simp [go_sem, *] at k11_w_0_0 k11_w_0_1 f11_w_0)); (try have l11_w_0 : w.heap.size < w11.heap.size := by omega); (try (have kq := cellAt hb11 (w.heap.size + 1) (by go_size); have k11_w_1_0 := kq 0; have k11_w_1_1 := kq 1; have k11_w_1_2 := kq 2; have k11_w_1_3 := kq 3; clear kq; have f11_w_1 := frozAt hb11 (w.heap.size + 1) (by go_size); simp [go_sem, *] at k11_w_1_0 k11_w_1_1 k11_w_1_2 k11_w_1_3 f11_w_1)); (try have l11_w_1 : w.heap.size + 1 < w11.heap.size := by omega); (try (have kq := cellAt hb11 (w.heap.size + 1 + 1) (by go_size); have k11_w_2_0 := kq 0; have k11_w_2_1 := kq 1; clear kq; have f11_w_2 := frozAt hb11 (w.heap.size + 1 + 1) (by go_size); simp [go_sem, *] at k11_w_2_0 k11_w_2_1 f11_w_2)); (try have l11_w_2 : w.heap.size + 1 + 1 < w11.heap.size := by omega); (try clear k7_w_0_0 k7_w_0_1 f7_w_0); (try clear l7_w_0); (try clear k7_w_1_0 k7_w_1_1 k7_w_1_2 k7_w_1_3 f7_w_1); (try clear l7_w_1); (try clear k7_w_2_0 k7_w_2_1 f7_w_2); (try clear l7_w_2); (try clear k8_w_0_0 k8_w_0_1 f8_w_0); (try clear l8_w_0); (try clear k8_w_1_0 k8_w_1_1 k8_w_1_2 k8_w_1_3 f8_w_1); (try clear l8_w_1); (try clear k8_w_2_0 k8_w_2_1 f8_w_2); (try clear l8_w_2); (try clear k9_w_0_0 k9_w_0_1 f9_w_0); (try clear l9_w_0); (try clear k9_w_1_0 k9_w_1_1 k9_w_1_2 k9_w_1_3 f9_w_1); (try clear l9_w_1); (try clear k9_w_2_0 k9_w_2_1 f9_w_2); (try clear l9_w_2); (try clear k10_w_0_0 k10_w_0_1 f10_w_0); (try clear l10_w_0); (try clear k10_w_1_0 k10_w_1_1 k10_w_1_2 k10_w_1_3 f10_w_1); (try clear l10_w_1); (try clear k10_w_2_0 k10_w_2_1 f10_w_2); (try clear l10_w_2)))
    refine bodyPost_ret (v := .agg #[.bool b7, .slice a7 n7 c7]) (by simp [results, Try.results31, go_sem, *]) rfl ⟨_, _, _, _, rfl, ⟨h7.neg, ?_⟩, ?_, ?_⟩
    · have hr7 := h7.row
      (repeat' first | exact hr7 | refine Sx.set ?_ ?_ _ _ | refine Sx.alloc ?_ _ | refine Sx.drew ?_ | (intro A e; have := f7 A e; (try simp only [World.size_alloc, World.size_setCell, World.size_drew, World.size_drewN'] at this); omega))
    · (intro A e; have := f7 A e; (try simp only [World.size_alloc, World.size_setCell, World.size_drew, World.size_drewN'] at this); omega)
    repeat' first | (with_reducible first | apply zRf | assumption | apply zDn | apply zDr | apply zAl | apply zSt | refine zVi (by assumption) ?_ ?_) | go_size
end Go.Proofs.Ytijpfnkhaldfeaa
