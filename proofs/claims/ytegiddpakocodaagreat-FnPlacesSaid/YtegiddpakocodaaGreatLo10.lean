/- Pairs that lift: the reference's side. -/
import Derived.Test.YtegiddpakocodaaGreatLo9
namespace Go.Proofs.YtegiddpakocodaaGreat
open Go.RowKit
set_option linter.unusedVariables false
set_option maxHeartbeats 4000000
set_option maxRecDepth 20000
set_option linter.unusedSimpArgs false
attribute [local go_sem] openAt openUpon
theorem mmB {x y n : Int} (hn : 2 ≤ n) (hn2 : n ≤ 1000000000) (hx : 0 ≤ x ∧ x < n) (hy : 0 ≤ y ∧ y < n) : (0 ≤ x * y ∧ x * y ≤ 1000000000000000000) ∧ (0 ≤ x * y % n ∧ x * y % n < n) := by
  have h1 := mul_bd (a := x) (b := y) (A := 1000000000) (B := 1000000000) (by omega) (by omega)
  have h2 : 0 ≤ x * y := Int.mul_nonneg hx.1 hy.1
  exact ⟨⟨h2, by omega⟩, Int.emod_nonneg _ (by omega), Int.emod_lt_of_pos _ (by omega)⟩
theorem loAt_any (D A C m e n : Int) (w : World) (hn : 2 ≤ n) (hn2 : n ≤ 1000000000) (hm : 0 ≤ m ∧ m < n) (he : 0 ≤ e ∧ e < n) :
    Calls Tryz.prog 107 #[.agg #[.int .i64 D, .int .i64 A, .int .i64 C], .int .i64 m, .int .i64 e, .int .i64 n] w fun r w' => r = .returned (.tuple #[.int .i64 (vaM D A C m e n), .int .i64 (dmM D A m e n), .int .i64 (deM A C m e n)]) ∧ Below w.heap.size w w' := by
  have V1 := Lib.hid (va_spec D A C m e n)
  have V2 := Lib.hid (dm_spec D A m e n)
  have V3 := Lib.hid (de_spec A C m e n)
  have hd : 0 ≤ D % n ∧ D % n < n := ⟨Int.emod_nonneg _ (by omega), Int.emod_lt_of_pos _ (by omega)⟩
  have ha : 0 ≤ A % n ∧ A % n < n := ⟨Int.emod_nonneg _ (by omega), Int.emod_lt_of_pos _ (by omega)⟩
  have hc : 0 ≤ C % n ∧ C % n < n := ⟨Int.emod_nonneg _ (by omega), Int.emod_lt_of_pos _ (by omega)⟩
  have q1 := mmB hn hn2 hm hm
  have q2 := mmB hn hn2 he he
  have h0 : n ≠ 0 := by omega
  have h9 : n ≠ -1 := by omega
  generalize vaM D A C m e n = v1 at *
  generalize dmM D A m e n = v2 at *
  generalize deM A C m e n = v3 at *
  go_enter Tryz.func107, Tryz.ntmps107
  go_wp2_with fail
  refine wp_drawn' (n := 14) (by kernel_rfl) (by kernel_rfl) (by kernel_rfl) ?_
  apply Exists.intro
  refine ⟨?_, ?_⟩
  · intro W hW
    try (have kx_w_0_0 := fun x => xcell hW (w.heap.size) (by go_size) x 0; simp [go_sem, *] at kx_w_0_0)
    try (have kx_w_0_1 := fun x => xcell hW (w.heap.size) (by go_size) x 1; simp [go_sem, *] at kx_w_0_1)
    try (have kx_w_0_2 := fun x => xcell hW (w.heap.size) (by go_size) x 2; simp [go_sem, *] at kx_w_0_2)
    simp only [List.take_succ_cons, List.take_zero]
    repeat (go_big_quiet_step ((first | (go_at_call 42; exact draw_of_same _ (mdMod_any _ _ _ (by omega) (by omega))))))
    exact wpQuiet_nil rfl
  intro w1 hb1
  simp only [List.drop_succ_cons, List.drop_zero, Act.put, List.setIfInBounds_toArray, List.set_cons_succ, List.set_cons_zero]
  have hz1 := hb1.size
  (try simp only [World.size_alloc, World.size_setCell, World.size_drew, World.size_drewN'] at hz1)
  (try (have kq := cellAt hb1 (w.heap.size) (by go_size); have k1_w_0_0 := kq 0; have k1_w_0_1 := kq 1; have k1_w_0_2 := kq 2; clear kq; have f1_w_0 := frozAt hb1 (w.heap.size) (by go_size); simp [go_sem, *] at k1_w_0_0 k1_w_0_1 k1_w_0_2 f1_w_0))
  (try have l1_w_0 : w.heap.size < w1.heap.size := by omega)
  generalize D % n = d at *
  generalize A % n = a at *
  generalize C % n = c at *
  go_wp2_with fail
  refine wp_drawn' (n := 11) (by kernel_rfl) (by kernel_rfl) (by kernel_rfl) ?_
  apply Exists.intro
  refine ⟨?_, ?_⟩
  · intro W hW
    try (have kx_w_0_0 := fun x => xcell hW (w.heap.size) (by go_size) x 0; simp [go_sem, *] at kx_w_0_0)
    try (have kx_w_0_1 := fun x => xcell hW (w.heap.size) (by go_size) x 1; simp [go_sem, *] at kx_w_0_1)
    try (have kx_w_0_2 := fun x => xcell hW (w.heap.size) (by go_size) x 2; simp [go_sem, *] at kx_w_0_2)
    simp only [List.take_succ_cons, List.take_zero]
    repeat (go_big_quiet_step (fail))
    exact wpQuiet_nil rfl
  intro w2 hb2
  simp only [List.drop_succ_cons, List.drop_zero, Act.put, List.setIfInBounds_toArray, List.set_cons_succ, List.set_cons_zero]
  have hz2 := hb2.size
  (try simp only [World.size_alloc, World.size_setCell, World.size_drew, World.size_drewN'] at hz2)
  (try (have kq := cellAt hb2 (w.heap.size) (by go_size); have k2_w_0_0 := kq 0; have k2_w_0_1 := kq 1; have k2_w_0_2 := kq 2; clear kq; have f2_w_0 := frozAt hb2 (w.heap.size) (by go_size); simp [go_sem, *] at k2_w_0_0 k2_w_0_1 k2_w_0_2 f2_w_0))
  (try have l2_w_0 : w.heap.size < w2.heap.size := by omega)
  (try clear k1_w_0_0 k1_w_0_1 k1_w_0_2 f1_w_0)
  (try clear l1_w_0)
  generalize m * m % n = m2 at *
  generalize e * e % n = e2 at *
  have r1 := mmB hn hn2 q1.2 q1.2
  have r2 := mmB hn hn2 q1.2 q2.2
  have r3 := mmB hn hn2 q2.2 q2.2
  have r4 := mmB hn hn2 hd r1.2
  have r5 := mmB hn hn2 ha r2.2
  have r6 := mmB hn hn2 hc r3.2
  go_wp2_with fail
  refine wp_drawn' (n := 31) (by kernel_rfl) (by kernel_rfl) (by kernel_rfl) ?_
  apply Exists.intro
  refine ⟨?_, ?_⟩
  · intro W hW
    try (have kx_w_0_0 := fun x => xcell hW (w.heap.size) (by go_size) x 0; simp [go_sem, *] at kx_w_0_0)
    try (have kx_w_0_1 := fun x => xcell hW (w.heap.size) (by go_size) x 1; simp [go_sem, *] at kx_w_0_1)
    try (have kx_w_0_2 := fun x => xcell hW (w.heap.size) (by go_size) x 2; simp [go_sem, *] at kx_w_0_2)
    simp only [List.take_succ_cons, List.take_zero]
    repeat (go_big_quiet_step (fail))
    exact wpQuiet_nil rfl
  intro w3 hb3
  simp only [List.drop_succ_cons, List.drop_zero, Act.put, List.setIfInBounds_toArray, List.set_cons_succ, List.set_cons_zero]
  have hz3 := hb3.size
  (try simp only [World.size_alloc, World.size_setCell, World.size_drew, World.size_drewN'] at hz3)
  (try (have kq := cellAt hb3 (w.heap.size) (by go_size); have k3_w_0_0 := kq 0; have k3_w_0_1 := kq 1; have k3_w_0_2 := kq 2; clear kq; have f3_w_0 := frozAt hb3 (w.heap.size) (by go_size); simp [go_sem, *] at k3_w_0_0 k3_w_0_1 k3_w_0_2 f3_w_0))
  (try have l3_w_0 : w.heap.size < w3.heap.size := by omega)
  (try clear k1_w_0_0 k1_w_0_1 k1_w_0_2 f1_w_0)
  (try clear l1_w_0)
  (try clear k2_w_0_0 k2_w_0_1 k2_w_0_2 f2_w_0)
  (try clear l2_w_0)
  have F1 : (d * (m2 * m2 % n) % n + a * (m2 * e2 % n) % n + c * (e2 * e2 % n) % n) % n = v1 := V1.out
  rw [F1]
  clear r1 r2 r3 r4 r5 r6 F1 V1
  have r1 := mmB hn hn2 q1.2 hm
  have r2 := mmB hn hn2 hm q2.2
  have r4 := mmB hn hn2 hd r1.2
  have r5 := mmB hn hn2 ha r2.2
  go_wp2_with fail
  refine wp_drawn' (n := 23) (by kernel_rfl) (by kernel_rfl) (by kernel_rfl) ?_
  apply Exists.intro
  refine ⟨?_, ?_⟩
  · intro W hW
    try (have kx_w_0_0 := fun x => xcell hW (w.heap.size) (by go_size) x 0; simp [go_sem, *] at kx_w_0_0)
    try (have kx_w_0_1 := fun x => xcell hW (w.heap.size) (by go_size) x 1; simp [go_sem, *] at kx_w_0_1)
    try (have kx_w_0_2 := fun x => xcell hW (w.heap.size) (by go_size) x 2; simp [go_sem, *] at kx_w_0_2)
    simp only [List.take_succ_cons, List.take_zero]
    repeat (go_big_quiet_step (fail))
    exact wpQuiet_nil rfl
  intro w4 hb4
  simp only [List.drop_succ_cons, List.drop_zero, Act.put, List.setIfInBounds_toArray, List.set_cons_succ, List.set_cons_zero]
  have hz4 := hb4.size
  (try simp only [World.size_alloc, World.size_setCell, World.size_drew, World.size_drewN'] at hz4)
  (try (have kq := cellAt hb4 (w.heap.size) (by go_size); have k4_w_0_0 := kq 0; have k4_w_0_1 := kq 1; have k4_w_0_2 := kq 2; clear kq; have f4_w_0 := frozAt hb4 (w.heap.size) (by go_size); simp [go_sem, *] at k4_w_0_0 k4_w_0_1 k4_w_0_2 f4_w_0))
  (try have l4_w_0 : w.heap.size < w4.heap.size := by omega)
  (try clear k1_w_0_0 k1_w_0_1 k1_w_0_2 f1_w_0)
  (try clear l1_w_0)
  (try clear k2_w_0_0 k2_w_0_1 k2_w_0_2 f2_w_0)
  (try clear l2_w_0)
  (try clear k3_w_0_0 k3_w_0_1 k3_w_0_2 f3_w_0)
  (try clear l3_w_0)
  have F1 : (4 * (d * (m2 * m % n) % n) + 2 * (a * (m * e2 % n) % n)) % n = v2 := V2.out
  rw [F1]
  clear r1 r2 r4 r5 F1 V2
  have r1 := mmB hn hn2 q1.2 he
  have r2 := mmB hn hn2 q2.2 he
  have r4 := mmB hn hn2 ha r1.2
  have r5 := mmB hn hn2 hc r2.2
  go_wp2_with fail
  refine wp_drawn' (n := 23) (by kernel_rfl) (by kernel_rfl) (by kernel_rfl) ?_
  apply Exists.intro
  refine ⟨?_, ?_⟩
  · intro W hW
    try (have kx_w_0_0 := fun x => xcell hW (w.heap.size) (by go_size) x 0; simp [go_sem, *] at kx_w_0_0)
    try (have kx_w_0_1 := fun x => xcell hW (w.heap.size) (by go_size) x 1; simp [go_sem, *] at kx_w_0_1)
    try (have kx_w_0_2 := fun x => xcell hW (w.heap.size) (by go_size) x 2; simp [go_sem, *] at kx_w_0_2)
    simp only [List.take_succ_cons, List.take_zero]
    repeat (go_big_quiet_step (fail))
    exact wpQuiet_nil rfl
  intro w5 hb5
  simp only [List.drop_succ_cons, List.drop_zero, Act.put, List.setIfInBounds_toArray, List.set_cons_succ, List.set_cons_zero]
  have hz5 := hb5.size
  (try simp only [World.size_alloc, World.size_setCell, World.size_drew, World.size_drewN'] at hz5)
  (try (have kq := cellAt hb5 (w.heap.size) (by go_size); have k5_w_0_0 := kq 0; have k5_w_0_1 := kq 1; have k5_w_0_2 := kq 2; clear kq; have f5_w_0 := frozAt hb5 (w.heap.size) (by go_size); simp [go_sem, *] at k5_w_0_0 k5_w_0_1 k5_w_0_2 f5_w_0))
  (try have l5_w_0 : w.heap.size < w5.heap.size := by omega)
  (try clear k1_w_0_0 k1_w_0_1 k1_w_0_2 f1_w_0)
  (try clear l1_w_0)
  (try clear k2_w_0_0 k2_w_0_1 k2_w_0_2 f2_w_0)
  (try clear l2_w_0)
  (try clear k3_w_0_0 k3_w_0_1 k3_w_0_2 f3_w_0)
  (try clear l3_w_0)
  (try clear k4_w_0_0 k4_w_0_1 k4_w_0_2 f4_w_0)
  (try clear l4_w_0)
  have F1 : (2 * (a * (m2 * e % n) % n) + 4 * (c * (e2 * e % n) % n)) % n = v3 := V3.out
  rw [F1]
  go_wp2_with fail
  go_ret3
  refine ⟨rfl, ?_⟩
  repeat' first | (with_reducible first | apply zRf | assumption | apply zDn | apply zDr | apply zAl | apply zSt | refine zVi (by assumption) ?_ ?_) | go_size
theorem loLifts_any (D A C m e p : Int) (k : Nat) (w : World) (hp : 2 ≤ p) (hp2 : p ≤ 1000) (hk1 : 1 ≤ k) (hk2 : k ≤ 1000) (hM : p ^ k ≤ 1000000000) (hm : 0 ≤ m ∧ m < p ^ k) (he : 0 ≤ e ∧ e < p ^ k) :
    Calls Tryz.prog 99 #[.agg #[.int .i64 D, .int .i64 A, .int .i64 C], .int .i64 m, .int .i64 e, .int .i64 p, .int .i64 k] w fun r w' => r = .returned (.tuple #[.bool (poB D A C m e p k), .bool (liB D A C m e p k)]) ∧ Below w.heap.size w w' := by
  have hn := pow_mono' (p := p) (by omega) hk1
  rw [show p ^ 1 = p by rw [Int.pow_succ, Int.pow_zero, Int.one_mul]] at hn
  replace hn : 2 ≤ p ^ k := by omega
  have T0 := fun W : World => Lib.hid (loPower_any p k W (by omega) (by omega) (by omega) (by rw [Int.toNat_natCast]; omega))
  rw [Int.toNat_natCast] at T0
  have T1 := fun W : World => Lib.hid (loAt_any D A C m e (p ^ k) W hn hM hm he)
  have vb1 : 0 ≤ vaM D A C m e (p ^ k) ∧ vaM D A C m e (p ^ k) < p ^ k := ⟨Int.emod_nonneg _ (by omega), Int.emod_lt_of_pos _ (by omega)⟩
  have vb2 : 0 ≤ dmM D A m e (p ^ k) ∧ dmM D A m e (p ^ k) < p ^ k := ⟨Int.emod_nonneg _ (by omega), Int.emod_lt_of_pos _ (by omega)⟩
  have vb3 : 0 ≤ deM A C m e (p ^ k) ∧ deM A C m e (p ^ k) < p ^ k := ⟨Int.emod_nonneg _ (by omega), Int.emod_lt_of_pos _ (by omega)⟩
  have T2 := fun W : World => Lib.hid (loSquare_any (vaM D A C m e (p ^ k)) p k W hp hp2 hk1 hk2 hM vb1.1 vb1.2)
  have T3 := fun W : World => Lib.hid (loOften_any (dmM D A m e (p ^ k)) p k W hp hp2 (by omega) (by omega))
  have T4 := fun W : World => Lib.hid (loOften_any (deM A C m e (p ^ k)) p k W hp hp2 (by omega) (by omega))
  have T5 := fun W : World => Lib.hid (loOften_any (vaM D A C m e (p ^ k)) p k W hp hp2 (by omega) (by omega))
  have o1 := oft_le (dmM D A m e (p ^ k)) p k
  have o2 := oft_le (deM A C m e (p ^ k)) p k
  have o3 := oft_le (vaM D A C m e (p ^ k)) p k
  have W1 := Lib.hid (show vaM D A C m e (p ^ k) = 0 → oft (vaM D A C m e (p ^ k)) p k = k ∧ liW D A C m e p k = min (oft (dmM D A m e (p ^ k)) p k) (oft (deM A C m e (p ^ k)) p k) by intro hv; simp [liW, hv, oft_zero])
  have W2 := Lib.hid (show vaM D A C m e (p ^ k) ≠ 0 → oft (vaM D A C m e (p ^ k)) p k < k ∧ liW D A C m e p k = min (min (oft (dmM D A m e (p ^ k)) p k) (oft (deM A C m e (p ^ k)) p k)) (oft (vaM D A C m e (p ^ k)) p k / 2 + if p = 2 then 1 else 0) by
    intro hv
    have h1 := oft_pos hp (show 0 < vaM D A C m e (p ^ k) by omega) vb1.2
    rw [h1]
    exact ⟨vl_lt hp (by omega) vb1.2, by simp [liW, hv, hlf]⟩)
  have HB := Lib.hid (show liB D A C m e p k = (poB D A C m e p k && decide (2 * liW D A C m e p k + 1 ≤ k)) from rfl)
  have HP := Lib.hid (show poB D A C m e p k = sqLo (vaM D A C m e (p ^ k)) p k from rfl)
  rw [← HP.out] at T2
  clear HP
  generalize oft (dmM D A m e (p ^ k)) p k = u1 at *
  generalize oft (deM A C m e (p ^ k)) p k = u2 at *
  generalize oft (vaM D A C m e (p ^ k)) p k = u3 at *
  generalize liW D A C m e p k = W0 at *
  generalize liB D A C m e p k = R at *
  generalize hpo : poB D A C m e p k = po at *
  generalize hva : vaM D A C m e (p ^ k) = v1 at *
  clear hva
  generalize dmM D A m e (p ^ k) = v2 at *
  generalize deM A C m e (p ^ k) = v3 at *
  generalize p ^ k = q at *
  clear hpo
  cases po
  · rw [show R = false by rw [HB.out]; rfl]
    clear W1 W2 HB
    generalize (k : Int) = kk at *
    go_enter Tryz.func99, Tryz.ntmps99
    go_wp2_with fail
    refine wp_drawn' (n := 13) (by kernel_rfl) (by kernel_rfl) (by kernel_rfl) ?_
    apply Exists.intro
    refine ⟨?_, ?_⟩
    · intro W hW
      try (have kx_w_0_0 := fun x => xcell hW (w.heap.size) (by go_size) x 0; simp [go_sem, *] at kx_w_0_0)
      try (have kx_w_0_1 := fun x => xcell hW (w.heap.size) (by go_size) x 1; simp [go_sem, *] at kx_w_0_1)
      try (have kx_w_0_2 := fun x => xcell hW (w.heap.size) (by go_size) x 2; simp [go_sem, *] at kx_w_0_2)
      simp only [List.take_succ_cons, List.take_zero]
      repeat (go_big_quiet_step ((first | (go_at_call 43; (with_reducible exact draw_of_same _ ((T0 _).out))) | (go_at_call 107; (with_reducible exact draw_of _ ((T1 _).out))))))
      exact wpQuiet_nil rfl
    intro w1 hb1
    simp only [List.drop_succ_cons, List.drop_zero, Act.put, List.setIfInBounds_toArray, List.set_cons_succ, List.set_cons_zero]
    have hz1 := hb1.size
    (try simp only [World.size_alloc, World.size_setCell, World.size_drew, World.size_drewN'] at hz1)
    (try (have kq := cellAt hb1 (w.heap.size) (by go_size); have k1_w_0_0 := kq 0; have k1_w_0_1 := kq 1; have k1_w_0_2 := kq 2; clear kq; have f1_w_0 := frozAt hb1 (w.heap.size) (by go_size); simp [go_sem, *] at k1_w_0_0 k1_w_0_1 k1_w_0_2 f1_w_0))
    (try have l1_w_0 : w.heap.size < w1.heap.size := by omega)
    go_wp2_with (first | (go_at_call 41; (with_reducible refine ((T2 _).out).mono ?_); rintro e w' ⟨rfl, rfl⟩) | (go_at_call 65; (with_reducible refine ((T3 _).out).mono ?_); rintro e w' ⟨rfl, rfl⟩) | (go_at_call 65; (with_reducible refine ((T4 _).out).mono ?_); rintro e w' ⟨rfl, rfl⟩) | (go_at_call 65; (with_reducible refine ((T5 _).out).mono ?_); rintro e w' ⟨rfl, rfl⟩) | (go_at_call 67; refine (l1Least_any _ _ _).mono ?_; rintro e w' ⟨rfl, rfl⟩))
    go_ret2
    refine ⟨rfl, ?_⟩
    repeat' first | (with_reducible first | apply zRf | assumption | apply zDn | apply zDr | apply zAl | apply zSt | refine zVi (by assumption) ?_ ?_) | go_size
  · have HB' := Lib.hid (show R = decide (2 * W0 + 1 ≤ k) by rw [HB.out]; simp)
    clear HB
    by_cases hv : v1 = 0
    · have HW := Lib.hid (W1.out hv).2
      have hk3 := (W1.out hv).1
      have hlt : ¬ ((u3 : Int) < (k : Int)) := by omega
      clear W1 W2 hv hk3
      have B1 : 0 ≤ least (u1 : Int) u2 ∧ least (u1 : Int) u2 ≤ k := by rw [least_eq]; omega
      go_enter Tryz.func99, Tryz.ntmps99
      go_wp2_with fail
      refine wp_drawn' (n := 13) (by kernel_rfl) (by kernel_rfl) (by kernel_rfl) ?_
      apply Exists.intro
      refine ⟨?_, ?_⟩
      · intro W hW
        try (have kx_w_0_0 := fun x => xcell hW (w.heap.size) (by go_size) x 0; simp [go_sem, *] at kx_w_0_0)
        try (have kx_w_0_1 := fun x => xcell hW (w.heap.size) (by go_size) x 1; simp [go_sem, *] at kx_w_0_1)
        try (have kx_w_0_2 := fun x => xcell hW (w.heap.size) (by go_size) x 2; simp [go_sem, *] at kx_w_0_2)
        simp only [List.take_succ_cons, List.take_zero]
        repeat (go_big_quiet_step ((first | (go_at_call 43; (with_reducible exact draw_of_same _ ((T0 _).out))) | (go_at_call 107; (with_reducible exact draw_of _ ((T1 _).out))))))
        exact wpQuiet_nil rfl
      intro w1 hb1
      simp only [List.drop_succ_cons, List.drop_zero, Act.put, List.setIfInBounds_toArray, List.set_cons_succ, List.set_cons_zero]
      have hz1 := hb1.size
      (try simp only [World.size_alloc, World.size_setCell, World.size_drew, World.size_drewN'] at hz1)
      (try (have kq := cellAt hb1 (w.heap.size) (by go_size); have k1_w_0_0 := kq 0; have k1_w_0_1 := kq 1; have k1_w_0_2 := kq 2; clear kq; have f1_w_0 := frozAt hb1 (w.heap.size) (by go_size); simp [go_sem, *] at k1_w_0_0 k1_w_0_1 k1_w_0_2 f1_w_0))
      (try have l1_w_0 : w.heap.size < w1.heap.size := by omega)
      go_wp2_with (first | (go_at_call 41; (with_reducible refine ((T2 _).out).mono ?_); rintro e w' ⟨rfl, rfl⟩) | (go_at_call 65; (with_reducible refine ((T3 _).out).mono ?_); rintro e w' ⟨rfl, rfl⟩) | (go_at_call 65; (with_reducible refine ((T4 _).out).mono ?_); rintro e w' ⟨rfl, rfl⟩) | (go_at_call 65; (with_reducible refine ((T5 _).out).mono ?_); rintro e w' ⟨rfl, rfl⟩) | (go_at_call 67; refine (l1Least_any _ _ _).mono ?_; rintro e w' ⟨rfl, rfl⟩))
      go_ret2
      refine ⟨?_, ?_⟩
      · rw [HB'.out, HW.out]; refine congrArg (fun b : Bool => Ending.returned (.tuple #[.bool true, .bool b])) ?_; rw [Bool.eq_iff_iff]; simp only [decide_eq_true_eq, least_eq]; omega
      repeat' first | (with_reducible first | apply zRf | assumption | apply zDn | apply zDr | apply zAl | apply zSt | refine zVi (by assumption) ?_ ?_) | go_size
    · have HW := Lib.hid (W2.out hv).2
      have hlt := (W2.out hv).1
      clear W1 W2 hv
      by_cases h2 : p = 2
      · subst h2
        rw [if_pos rfl] at HW
        have B1 : 0 ≤ least (u1 : Int) u2 ∧ least (u1 : Int) u2 ≤ k := by rw [least_eq]; omega
        have B2 : 0 ≤ least (least (u1 : Int) u2) ((u3 : Int) / 2 + 1) ∧ least (least (u1 : Int) u2) ((u3 : Int) / 2 + 1) ≤ k := by rw [least_eq, least_eq]; omega
        go_enter Tryz.func99, Tryz.ntmps99
        go_wp2_with fail
        refine wp_drawn' (n := 13) (by kernel_rfl) (by kernel_rfl) (by kernel_rfl) ?_
        apply Exists.intro
        refine ⟨?_, ?_⟩
        · intro W hW
          try (have kx_w_0_0 := fun x => xcell hW (w.heap.size) (by go_size) x 0; simp [go_sem, *] at kx_w_0_0)
          try (have kx_w_0_1 := fun x => xcell hW (w.heap.size) (by go_size) x 1; simp [go_sem, *] at kx_w_0_1)
          try (have kx_w_0_2 := fun x => xcell hW (w.heap.size) (by go_size) x 2; simp [go_sem, *] at kx_w_0_2)
          simp only [List.take_succ_cons, List.take_zero]
          repeat (go_big_quiet_step ((first | (go_at_call 43; (with_reducible exact draw_of_same _ ((T0 _).out))) | (go_at_call 107; (with_reducible exact draw_of _ ((T1 _).out))))))
          exact wpQuiet_nil rfl
        intro w1 hb1
        simp only [List.drop_succ_cons, List.drop_zero, Act.put, List.setIfInBounds_toArray, List.set_cons_succ, List.set_cons_zero]
        have hz1 := hb1.size
        (try simp only [World.size_alloc, World.size_setCell, World.size_drew, World.size_drewN'] at hz1)
        (try (have kq := cellAt hb1 (w.heap.size) (by go_size); have k1_w_0_0 := kq 0; have k1_w_0_1 := kq 1; have k1_w_0_2 := kq 2; clear kq; have f1_w_0 := frozAt hb1 (w.heap.size) (by go_size); simp [go_sem, *] at k1_w_0_0 k1_w_0_1 k1_w_0_2 f1_w_0))
        (try have l1_w_0 : w.heap.size < w1.heap.size := by omega)
        go_wp2_with (first | (go_at_call 41; (with_reducible refine ((T2 _).out).mono ?_); rintro e w' ⟨rfl, rfl⟩) | (go_at_call 65; (with_reducible refine ((T3 _).out).mono ?_); rintro e w' ⟨rfl, rfl⟩) | (go_at_call 65; (with_reducible refine ((T4 _).out).mono ?_); rintro e w' ⟨rfl, rfl⟩) | (go_at_call 65; (with_reducible refine ((T5 _).out).mono ?_); rintro e w' ⟨rfl, rfl⟩) | (go_at_call 67; refine (l1Least_any _ _ _).mono ?_; rintro e w' ⟨rfl, rfl⟩))
        go_ret2
        refine ⟨?_, ?_⟩
        · rw [HB'.out, HW.out]; refine congrArg (fun b : Bool => Ending.returned (.tuple #[.bool true, .bool b])) ?_; rw [Bool.eq_iff_iff]; simp only [decide_eq_true_eq, least_eq]; omega
        repeat' first | (with_reducible first | apply zRf | assumption | apply zDn | apply zDr | apply zAl | apply zSt | refine zVi (by assumption) ?_ ?_) | go_size
      · have h2' : (p == 2) = false := by simp [h2]
        rw [if_neg h2] at HW
        clear h2
        have B1 : 0 ≤ least (u1 : Int) u2 ∧ least (u1 : Int) u2 ≤ k := by rw [least_eq]; omega
        have B2 : 0 ≤ least (least (u1 : Int) u2) ((u3 : Int) / 2) ∧ least (least (u1 : Int) u2) ((u3 : Int) / 2) ≤ k := by rw [least_eq, least_eq]; omega
        go_enter Tryz.func99, Tryz.ntmps99
        go_wp2_with fail
        refine wp_drawn' (n := 13) (by kernel_rfl) (by kernel_rfl) (by kernel_rfl) ?_
        apply Exists.intro
        refine ⟨?_, ?_⟩
        · intro W hW
          try (have kx_w_0_0 := fun x => xcell hW (w.heap.size) (by go_size) x 0; simp [go_sem, *] at kx_w_0_0)
          try (have kx_w_0_1 := fun x => xcell hW (w.heap.size) (by go_size) x 1; simp [go_sem, *] at kx_w_0_1)
          try (have kx_w_0_2 := fun x => xcell hW (w.heap.size) (by go_size) x 2; simp [go_sem, *] at kx_w_0_2)
          simp only [List.take_succ_cons, List.take_zero]
          repeat (go_big_quiet_step ((first | (go_at_call 43; (with_reducible exact draw_of_same _ ((T0 _).out))) | (go_at_call 107; (with_reducible exact draw_of _ ((T1 _).out))))))
          exact wpQuiet_nil rfl
        intro w1 hb1
        simp only [List.drop_succ_cons, List.drop_zero, Act.put, List.setIfInBounds_toArray, List.set_cons_succ, List.set_cons_zero]
        have hz1 := hb1.size
        (try simp only [World.size_alloc, World.size_setCell, World.size_drew, World.size_drewN'] at hz1)
        (try (have kq := cellAt hb1 (w.heap.size) (by go_size); have k1_w_0_0 := kq 0; have k1_w_0_1 := kq 1; have k1_w_0_2 := kq 2; clear kq; have f1_w_0 := frozAt hb1 (w.heap.size) (by go_size); simp [go_sem, *] at k1_w_0_0 k1_w_0_1 k1_w_0_2 f1_w_0))
        (try have l1_w_0 : w.heap.size < w1.heap.size := by omega)
        go_wp2_with (first | (go_at_call 41; (with_reducible refine ((T2 _).out).mono ?_); rintro e w' ⟨rfl, rfl⟩) | (go_at_call 65; (with_reducible refine ((T3 _).out).mono ?_); rintro e w' ⟨rfl, rfl⟩) | (go_at_call 65; (with_reducible refine ((T4 _).out).mono ?_); rintro e w' ⟨rfl, rfl⟩) | (go_at_call 65; (with_reducible refine ((T5 _).out).mono ?_); rintro e w' ⟨rfl, rfl⟩) | (go_at_call 67; refine (l1Least_any _ _ _).mono ?_; rintro e w' ⟨rfl, rfl⟩))
        go_ret2
        refine ⟨?_, ?_⟩
        · rw [HB'.out, HW.out]; refine congrArg (fun b : Bool => Ending.returned (.tuple #[.bool true, .bool b])) ?_; rw [Bool.eq_iff_iff]; simp only [decide_eq_true_eq, least_eq]; omega
        repeat' first | (with_reducible first | apply zRf | assumption | apply zDn | apply zDr | apply zAl | apply zSt | refine zVi (by assumption) ?_ ?_) | go_size
end Go.Proofs.YtegiddpakocodaaGreat
