/- The program's value of a quartic modulo a number. -/
import Derived.Test.YtegiddpakocodaaLo7
import Derived.Test.YtegiddpakocodaaDrawn4
import Derived.Test.YtegiddpakocodaaLoP3
namespace Go.Proofs.Ytegiddpakocodaa
open Go.RowKit
set_option linter.unusedVariables false
set_option maxHeartbeats 4000000
set_option maxRecDepth 20000
set_option linter.unusedSimpArgs false
attribute [local go_sem] openAt openUpon
theorem times_five (g : Nat) (a b c d e n : Int) (w : World) (hn : 2 ≤ n) (hn2 : n ≤ 1000000000) (T : TypeId) (hk : w.heap[g]? = some (.cells #[.int .i64 a, .int .i64 b, .int .i64 c, .int .i64 d, .int .i64 e] T (0, 0))) :
    Calls Try.prog 63 #[.int .i64 n, .slice (some ⟨g, 0, none⟩) 5 5] w fun r w' => r = .returned (.int .i64 (prM [a, b, c, d, e] n)) ∧ w = w' :=
  times_any g 0 5 [a, b, c, d, e] n w hn hn2 (by simp) (by
    intro j hj
    rw [Nat.zero_add, blk_cell hk]
    match j, hj with
    | 0, _ => rfl
    | 1, _ => rfl
    | 2, _ => rfl
    | 3, _ => rfl
    | 4, _ => rfl)
theorem valueModulo_any (D A C m e n : Int) (w : World) (hn : 2 ≤ n) (hn2 : n ≤ 1000000000) :
    Calls Try.prog 64 #[.agg #[.int .i64 D, .int .i64 A, .int .i64 C], .int .i64 m, .int .i64 e, .int .i64 n] w fun r w' => r = .returned (.int .i64 (vaM D A C m e n)) ∧ Below w.heap.size w w' := by
  have b1 := prM_bd [D, m, m, m, m] (show 0 < n by omega)
  have b2 := prM_bd [A, m, m, e, e] (show 0 < n by omega)
  have b3 := prM_bd [C, e, e, e, e] (show 0 < n by omega)
  have HV := Lib.hid (va_impl D A C m e n)
  go_enter Try.func64, Try.ntmps64
  go_wp2_with fail
  refine wp_open (n := 31) (by kernel_rfl) (by kernel_rfl) (by kernel_rfl) (by kernel_rfl) ?_
  simp only [List.take_succ_cons, List.take_zero]
  apply wpS_quiet
  · intro γ W hW hp
    refine ⟨rfl, ?_⟩
    go_big_quiet_op
    first | exact rfl
  · exact locS_const _
  try simp only [Act.put, List.setIfInBounds_toArray, List.set_cons_succ, List.set_cons_zero, Nat.reduceAdd]
  apply wpS_quiet
  · intro γ W hW hp
    refine ⟨rfl, ?_⟩
    go_big_quiet_op
    first | exact rfl
  · exact locS_const _
  try simp only [Act.put, List.setIfInBounds_toArray, List.set_cons_succ, List.set_cons_zero, Nat.reduceAdd]
  apply wpS_quiet
  · intro γ W hW hp
    have hs := hW.size
    (try simp only [World.size_alloc, World.size_setCell, World.size_drew, World.size_drewN'] at hs)
    try (have kx_w_0_0 := fun x : Over W => (cellAt x.lies (w.heap.size) (by omega) 0).trans (cellAt hW (w.heap.size) (by go_size) 0); simp [go_sem, *] at kx_w_0_0)
    try (have kx_w_0_1 := fun x : Over W => (cellAt x.lies (w.heap.size) (by omega) 1).trans (cellAt hW (w.heap.size) (by go_size) 1); simp [go_sem, *] at kx_w_0_1)
    try (have kx_w_0_2 := fun x : Over W => (cellAt x.lies (w.heap.size) (by omega) 2).trans (cellAt hW (w.heap.size) (by go_size) 2); simp [go_sem, *] at kx_w_0_2)
    clear hW hp
    refine ⟨rfl, ?_⟩
    go_big_quiet_op
    first | exact rfl
  · exact locS_const _
  try simp only [Act.put, List.setIfInBounds_toArray, List.set_cons_succ, List.set_cons_zero, Nat.reduceAdd]
  apply wpS_quiet
  · intro γ W hW hp
    refine ⟨rfl, ?_⟩
    go_big_quiet_op
    first | exact rfl
  · exact locS_const _
  try simp only [Act.put, List.setIfInBounds_toArray, List.set_cons_succ, List.set_cons_zero, Nat.reduceAdd]
  apply wpS_quiet
  · intro γ W hW hp
    refine ⟨rfl, ?_⟩
    go_big_quiet_op
    first | exact rfl
  · exact locS_const _
  try simp only [Act.put, List.setIfInBounds_toArray, List.set_cons_succ, List.set_cons_zero, Nat.reduceAdd]
  apply wpS_quiet
  · intro γ W hW hp
    refine ⟨rfl, ?_⟩
    go_big_quiet_op
    first | exact rfl
  · exact locS_const _
  try simp only [Act.put, List.setIfInBounds_toArray, List.set_cons_succ, List.set_cons_zero, Nat.reduceAdd]
  apply wpS_quiet
  · intro γ W hW hp
    refine ⟨rfl, ?_⟩
    go_big_quiet_op
    first | exact rfl
  · exact locS_const _
  try simp only [Act.put, List.setIfInBounds_toArray, List.set_cons_succ, List.set_cons_zero, Nat.reduceAdd]
  apply wpS_open (newRow _ _ _ 5)
  · intro γ W hW hp
    refine ⟨rfl, ?_⟩
    go_simp
    exact ⟨⟨⟨_, rfl, hW.size, heap_alloc_new _ _⟩, fun e => by cases e⟩, (Below.refl _ _).alloc (Nat.le_refl _) _⟩
  try simp only [Act.put, List.setIfInBounds_toArray, List.set_cons_succ, List.set_cons_zero, Nat.reduceAdd]
  apply wpS_quiet
  · intro γ W hW hp
    obtain ⟨g_7, e_7, l_7, k_7⟩ := hp _ (List.mem_append_right _ (List.mem_singleton.2 rfl)) (by kernel_rfl)
    dsimp only at e_7 l_7 k_7
    refine ⟨rfl, ?_⟩
    have E_7 := Lib.hid e_7
    clear e_7
    go_big_quiet_op
    apply Exists.intro
    refine ⟨fun x => ?_, ?_⟩
    · rw [E_7.out]
      have kk_7 := (x.lies.block _ (blk_lt' k_7)).trans k_7
      (first | (go_at_call 63; exact draw_of_same _ (times_five _ _ _ _ _ _ _ _ hn hn2 _ kk_7)))
    exact rfl
  · intro γ k g hk
    have h_7 : updV γ k g 7 = γ 7 := updV_other γ g (fun e => by subst e; exact absurd hk (by rw [show reachB .any _ 100 8 7 = true from by kernel_rfl]; simp))
    first | rfl | simp only [h_7]
  try simp only [Act.put, List.setIfInBounds_toArray, List.set_cons_succ, List.set_cons_zero, Nat.reduceAdd]
  apply wpS_quiet
  · intro γ W hW hp
    refine ⟨rfl, ?_⟩
    go_big_quiet_op
    first | exact rfl
  · exact locS_const _
  try simp only [Act.put, List.setIfInBounds_toArray, List.set_cons_succ, List.set_cons_zero, Nat.reduceAdd]
  apply wpS_quiet
  · intro γ W hW hp
    refine ⟨rfl, ?_⟩
    go_big_quiet_op
    first | exact rfl
  · exact locS_const _
  try simp only [Act.put, List.setIfInBounds_toArray, List.set_cons_succ, List.set_cons_zero, Nat.reduceAdd]
  apply wpS_quiet
  · intro γ W hW hp
    have hs := hW.size
    (try simp only [World.size_alloc, World.size_setCell, World.size_drew, World.size_drewN'] at hs)
    try (have kx_w_0_0 := fun x : Over W => (cellAt x.lies (w.heap.size) (by omega) 0).trans (cellAt hW (w.heap.size) (by go_size) 0); simp [go_sem, *] at kx_w_0_0)
    try (have kx_w_0_1 := fun x : Over W => (cellAt x.lies (w.heap.size) (by omega) 1).trans (cellAt hW (w.heap.size) (by go_size) 1); simp [go_sem, *] at kx_w_0_1)
    try (have kx_w_0_2 := fun x : Over W => (cellAt x.lies (w.heap.size) (by omega) 2).trans (cellAt hW (w.heap.size) (by go_size) 2); simp [go_sem, *] at kx_w_0_2)
    clear hW hp
    refine ⟨rfl, ?_⟩
    go_big_quiet_op
    first | exact rfl
  · exact locS_const _
  try simp only [Act.put, List.setIfInBounds_toArray, List.set_cons_succ, List.set_cons_zero, Nat.reduceAdd]
  apply wpS_quiet
  · intro γ W hW hp
    refine ⟨rfl, ?_⟩
    go_big_quiet_op
    first | exact rfl
  · exact locS_const _
  try simp only [Act.put, List.setIfInBounds_toArray, List.set_cons_succ, List.set_cons_zero, Nat.reduceAdd]
  apply wpS_quiet
  · intro γ W hW hp
    refine ⟨rfl, ?_⟩
    go_big_quiet_op
    first | exact rfl
  · exact locS_const _
  try simp only [Act.put, List.setIfInBounds_toArray, List.set_cons_succ, List.set_cons_zero, Nat.reduceAdd]
  apply wpS_quiet
  · intro γ W hW hp
    refine ⟨rfl, ?_⟩
    go_big_quiet_op
    first | exact rfl
  · exact locS_const _
  try simp only [Act.put, List.setIfInBounds_toArray, List.set_cons_succ, List.set_cons_zero, Nat.reduceAdd]
  apply wpS_quiet
  · intro γ W hW hp
    refine ⟨rfl, ?_⟩
    go_big_quiet_op
    first | exact rfl
  · exact locS_const _
  try simp only [Act.put, List.setIfInBounds_toArray, List.set_cons_succ, List.set_cons_zero, Nat.reduceAdd]
  apply wpS_open (newRow _ _ _ 5)
  · intro γ W hW hp
    refine ⟨rfl, ?_⟩
    go_simp
    exact ⟨⟨⟨_, rfl, hW.size, heap_alloc_new _ _⟩, fun e => by cases e⟩, (Below.refl _ _).alloc (Nat.le_refl _) _⟩
  try simp only [Act.put, List.setIfInBounds_toArray, List.set_cons_succ, List.set_cons_zero, Nat.reduceAdd]
  apply wpS_quiet
  · intro γ W hW hp
    obtain ⟨g_16, e_16, l_16, k_16⟩ := hp _ (List.mem_append_right _ (List.mem_singleton.2 rfl)) (by kernel_rfl)
    dsimp only at e_16 l_16 k_16
    refine ⟨rfl, ?_⟩
    have E_16 := Lib.hid e_16
    clear e_16
    go_big_quiet_op
    apply Exists.intro
    refine ⟨fun x => ?_, ?_⟩
    · rw [E_16.out]
      have kk_16 := (x.lies.block _ (blk_lt' k_16)).trans k_16
      (first | (go_at_call 63; exact draw_of_same _ (times_five _ _ _ _ _ _ _ _ hn hn2 _ kk_16)))
    exact rfl
  · intro γ k g hk
    have h_16 : updV γ k g 16 = γ 16 := updV_other γ g (fun e => by subst e; exact absurd hk (by rw [show reachB .any _ 100 17 16 = true from by kernel_rfl]; simp))
    first | rfl | simp only [h_16]
  try simp only [Act.put, List.setIfInBounds_toArray, List.set_cons_succ, List.set_cons_zero, Nat.reduceAdd]
  apply wpS_quiet
  · intro γ W hW hp
    refine ⟨rfl, ?_⟩
    go_big_quiet_op
    first | exact rfl
  · exact locS_const _
  try simp only [Act.put, List.setIfInBounds_toArray, List.set_cons_succ, List.set_cons_zero, Nat.reduceAdd]
  apply wpS_quiet
  · intro γ W hW hp
    refine ⟨rfl, ?_⟩
    go_big_quiet_op
    first | exact rfl
  · exact locS_const _
  try simp only [Act.put, List.setIfInBounds_toArray, List.set_cons_succ, List.set_cons_zero, Nat.reduceAdd]
  apply wpS_quiet
  · intro γ W hW hp
    refine ⟨rfl, ?_⟩
    go_big_quiet_op
    first | exact rfl
  · exact locS_const _
  try simp only [Act.put, List.setIfInBounds_toArray, List.set_cons_succ, List.set_cons_zero, Nat.reduceAdd]
  apply wpS_quiet
  · intro γ W hW hp
    have hs := hW.size
    (try simp only [World.size_alloc, World.size_setCell, World.size_drew, World.size_drewN'] at hs)
    try (have kx_w_0_0 := fun x : Over W => (cellAt x.lies (w.heap.size) (by omega) 0).trans (cellAt hW (w.heap.size) (by go_size) 0); simp [go_sem, *] at kx_w_0_0)
    try (have kx_w_0_1 := fun x : Over W => (cellAt x.lies (w.heap.size) (by omega) 1).trans (cellAt hW (w.heap.size) (by go_size) 1); simp [go_sem, *] at kx_w_0_1)
    try (have kx_w_0_2 := fun x : Over W => (cellAt x.lies (w.heap.size) (by omega) 2).trans (cellAt hW (w.heap.size) (by go_size) 2); simp [go_sem, *] at kx_w_0_2)
    clear hW hp
    refine ⟨rfl, ?_⟩
    go_big_quiet_op
    first | exact rfl
  · exact locS_const _
  try simp only [Act.put, List.setIfInBounds_toArray, List.set_cons_succ, List.set_cons_zero, Nat.reduceAdd]
  apply wpS_quiet
  · intro γ W hW hp
    refine ⟨rfl, ?_⟩
    go_big_quiet_op
    first | exact rfl
  · exact locS_const _
  try simp only [Act.put, List.setIfInBounds_toArray, List.set_cons_succ, List.set_cons_zero, Nat.reduceAdd]
  apply wpS_quiet
  · intro γ W hW hp
    refine ⟨rfl, ?_⟩
    go_big_quiet_op
    first | exact rfl
  · exact locS_const _
  try simp only [Act.put, List.setIfInBounds_toArray, List.set_cons_succ, List.set_cons_zero, Nat.reduceAdd]
  apply wpS_quiet
  · intro γ W hW hp
    refine ⟨rfl, ?_⟩
    go_big_quiet_op
    first | exact rfl
  · exact locS_const _
  try simp only [Act.put, List.setIfInBounds_toArray, List.set_cons_succ, List.set_cons_zero, Nat.reduceAdd]
  apply wpS_quiet
  · intro γ W hW hp
    refine ⟨rfl, ?_⟩
    go_big_quiet_op
    first | exact rfl
  · exact locS_const _
  try simp only [Act.put, List.setIfInBounds_toArray, List.set_cons_succ, List.set_cons_zero, Nat.reduceAdd]
  apply wpS_open (newRow _ _ _ 5)
  · intro γ W hW hp
    refine ⟨rfl, ?_⟩
    go_simp
    exact ⟨⟨⟨_, rfl, hW.size, heap_alloc_new _ _⟩, fun e => by cases e⟩, (Below.refl _ _).alloc (Nat.le_refl _) _⟩
  try simp only [Act.put, List.setIfInBounds_toArray, List.set_cons_succ, List.set_cons_zero, Nat.reduceAdd]
  apply wpS_quiet
  · intro γ W hW hp
    obtain ⟨g_26, e_26, l_26, k_26⟩ := hp _ (List.mem_append_right _ (List.mem_singleton.2 rfl)) (by kernel_rfl)
    dsimp only at e_26 l_26 k_26
    refine ⟨rfl, ?_⟩
    have E_26 := Lib.hid e_26
    clear e_26
    go_big_quiet_op
    apply Exists.intro
    refine ⟨fun x => ?_, ?_⟩
    · rw [E_26.out]
      have kk_26 := (x.lies.block _ (blk_lt' k_26)).trans k_26
      (first | (go_at_call 63; exact draw_of_same _ (times_five _ _ _ _ _ _ _ _ hn hn2 _ kk_26)))
    exact rfl
  · intro γ k g hk
    have h_26 : updV γ k g 26 = γ 26 := updV_other γ g (fun e => by subst e; exact absurd hk (by rw [show reachB .any _ 100 27 26 = true from by kernel_rfl]; simp))
    first | rfl | simp only [h_26]
  try simp only [Act.put, List.setIfInBounds_toArray, List.set_cons_succ, List.set_cons_zero, Nat.reduceAdd]
  apply wpS_quiet
  · intro γ W hW hp
    refine ⟨rfl, ?_⟩
    go_big_quiet_op
    first | exact rfl
  · exact locS_const _
  try simp only [Act.put, List.setIfInBounds_toArray, List.set_cons_succ, List.set_cons_zero, Nat.reduceAdd]
  apply wpS_quiet
  · intro γ W hW hp
    refine ⟨rfl, ?_⟩
    go_big_quiet_op
    first | exact rfl
  · exact locS_const _
  try simp only [Act.put, List.setIfInBounds_toArray, List.set_cons_succ, List.set_cons_zero, Nat.reduceAdd]
  apply wpS_quiet
  · intro γ W hW hp
    refine ⟨rfl, ?_⟩
    go_big_quiet_op
    first | exact rfl
  · exact locS_const _
  try simp only [Act.put, List.setIfInBounds_toArray, List.set_cons_succ, List.set_cons_zero, Nat.reduceAdd]
  apply wpS_end
  intro γ w1 hb1 hG1 hA1
  obtain ⟨g1_7, e1_7, l1_7, k1_7⟩ := hG1 _ (List.mem_append_left _ (List.mem_append_left _ (List.mem_append_right _ (List.mem_singleton.2 rfl))))
  dsimp only at e1_7 l1_7 k1_7
  obtain ⟨g1_16, e1_16, l1_16, k1_16⟩ := hG1 _ (List.mem_append_left _ (List.mem_append_right _ (List.mem_singleton.2 rfl)))
  dsimp only at e1_16 l1_16 k1_16
  obtain ⟨g1_26, e1_26, l1_26, k1_26⟩ := hG1 _ (List.mem_append_right _ (List.mem_singleton.2 rfl))
  dsimp only at e1_26 l1_26 k1_26
  clear hG1 hA1
  try simp only [e1_7, e1_16, e1_26]
  clear e1_7
  clear e1_16
  clear e1_26
  simp only [List.drop_succ_cons, List.drop_zero]
  have hz1 := hb1.size
  (try simp only [World.size_alloc, World.size_setCell, World.size_drew, World.size_drewN'] at hz1)
  (try (have kq := cellAt hb1 (w.heap.size) (by go_size); have k1_w_0_0 := kq 0; have k1_w_0_1 := kq 1; have k1_w_0_2 := kq 2; clear kq; have f1_w_0 := frozAt hb1 (w.heap.size) (by go_size); simp [go_sem, *] at k1_w_0_0 k1_w_0_1 k1_w_0_2 f1_w_0))
  (try have l1_w_0 : w.heap.size < w1.heap.size := by omega)
  go_wp2_with fail
  go_ret
  refine ⟨ret_int ?_, ?_⟩
  · first | exact HV.out | (rw [Int.tmod_eq_emod_of_nonneg (by omega)]; exact HV.out)
  repeat' first | (with_reducible first | apply zRf | assumption | apply zDn | apply zDr | apply zAl | apply zSt | refine zVi (by assumption) ?_ ?_) | go_size
theorem possible_any (D A C m e p : Int) (k : Nat) (w : World) (hp : 2 ≤ p) (hp2 : p ≤ 1000) (hk1 : 1 ≤ k) (hk2 : k ≤ 1000) (hM : p ^ k ≤ 1000000000) :
    Calls Try.prog 60 #[.agg #[.int .i64 D, .int .i64 A, .int .i64 C], .int .i64 m, .int .i64 e, .int .i64 p, .int .i64 k] w fun r w' => r = .returned (.bool (poB D A C m e p k)) ∧ Below w.heap.size w w' := by
  have hq1 := pow_mono' (p := p) (by omega) hk1
  rw [show p ^ 1 = p by rw [Int.pow_succ, Int.pow_zero, Int.one_mul]] at hq1
  have T1 := fun W : World => Lib.hid (intPower_any p k W (by omega) (by omega) (by omega) (by rw [Int.toNat_natCast]; omega))
  rw [Int.toNat_natCast] at T1
  have T2 := fun W : World => Lib.hid (valueModulo_any D A C m e (p ^ k) W (by omega) (by omega))
  have T3 := fun W : World => Lib.hid (squareModulo_any (vaM D A C m e (p ^ k)) p k W hp hp2 hk1 hk2 hM)
  rw [va_self] at T3
  unfold poB
  generalize sqLo (vaM D A C m e (p ^ k)) p k = b at *
  generalize vaM D A C m e (p ^ k) = v at *
  generalize p ^ k = q at *
  generalize (k : Int) = kk at *
  go_enter Try.func60, Try.ntmps60
  go_wp2_with fail
  refine wp_open (n := 10) (by kernel_rfl) (by kernel_rfl) (by kernel_rfl) (by kernel_rfl) ?_
  simp only [List.take_succ_cons, List.take_zero]
  apply wpS_quiet
  · intro γ W hW hp
    have hs := hW.size
    (try simp only [World.size_alloc, World.size_setCell, World.size_drew, World.size_drewN'] at hs)
    try (have kx_w_0_0 := fun x : Over W => (cellAt x.lies (w.heap.size) (by omega) 0).trans (cellAt hW (w.heap.size) (by go_size) 0); simp [go_sem, *] at kx_w_0_0)
    try (have kx_w_0_1 := fun x : Over W => (cellAt x.lies (w.heap.size) (by omega) 1).trans (cellAt hW (w.heap.size) (by go_size) 1); simp [go_sem, *] at kx_w_0_1)
    try (have kx_w_0_2 := fun x : Over W => (cellAt x.lies (w.heap.size) (by omega) 2).trans (cellAt hW (w.heap.size) (by go_size) 2); simp [go_sem, *] at kx_w_0_2)
    clear hW hp
    refine ⟨rfl, ?_⟩
    go_big_quiet_op
    first | exact rfl
  · exact locS_const _
  try simp only [Act.put, List.setIfInBounds_toArray, List.set_cons_succ, List.set_cons_zero, Nat.reduceAdd]
  apply wpS_quiet
  · intro γ W hW hp
    refine ⟨rfl, ?_⟩
    go_big_quiet_op
    first | exact rfl
  · exact locS_const _
  try simp only [Act.put, List.setIfInBounds_toArray, List.set_cons_succ, List.set_cons_zero, Nat.reduceAdd]
  apply wpS_quiet
  · intro γ W hW hp
    refine ⟨rfl, ?_⟩
    go_big_quiet_op
    first | exact rfl
  · exact locS_const _
  try simp only [Act.put, List.setIfInBounds_toArray, List.set_cons_succ, List.set_cons_zero, Nat.reduceAdd]
  apply wpS_quiet
  · intro γ W hW hp
    refine ⟨rfl, ?_⟩
    go_big_quiet_op
    first | exact rfl
  · exact locS_const _
  try simp only [Act.put, List.setIfInBounds_toArray, List.set_cons_succ, List.set_cons_zero, Nat.reduceAdd]
  apply wpS_quiet
  · intro γ W hW hp
    refine ⟨rfl, ?_⟩
    go_big_quiet_op
    first | exact rfl
  · exact locS_const _
  try simp only [Act.put, List.setIfInBounds_toArray, List.set_cons_succ, List.set_cons_zero, Nat.reduceAdd]
  apply wpS_quiet
  · intro γ W hW hp
    refine ⟨rfl, ?_⟩
    go_big_quiet_op
    apply Exists.intro
    refine ⟨fun x => ?_, ?_⟩
    · (first | (go_at_call 41; exact draw_of_same _ ((T1 _).out)) | (go_at_call 64; exact draw_of _ ((T2 _).out)) | (go_at_call 72; exact draw_of _ ((T3 _).out)))
    exact rfl
  · exact locS_const _
  try simp only [Act.put, List.setIfInBounds_toArray, List.set_cons_succ, List.set_cons_zero, Nat.reduceAdd]
  apply wpS_quiet
  · intro γ W hW hp
    refine ⟨rfl, ?_⟩
    go_big_quiet_op
    apply Exists.intro
    refine ⟨fun x => ?_, ?_⟩
    · (first | (go_at_call 41; exact draw_of_same _ ((T1 _).out)) | (go_at_call 64; exact draw_of _ ((T2 _).out)) | (go_at_call 72; exact draw_of _ ((T3 _).out)))
    exact rfl
  · exact locS_const _
  try simp only [Act.put, List.setIfInBounds_toArray, List.set_cons_succ, List.set_cons_zero, Nat.reduceAdd]
  apply wpS_quiet
  · intro γ W hW hp
    refine ⟨rfl, ?_⟩
    go_big_quiet_op
    first | exact rfl
  · exact locS_const _
  try simp only [Act.put, List.setIfInBounds_toArray, List.set_cons_succ, List.set_cons_zero, Nat.reduceAdd]
  apply wpS_quiet
  · intro γ W hW hp
    refine ⟨rfl, ?_⟩
    go_big_quiet_op
    first | exact rfl
  · exact locS_const _
  try simp only [Act.put, List.setIfInBounds_toArray, List.set_cons_succ, List.set_cons_zero, Nat.reduceAdd]
  apply wpS_quiet
  · intro γ W hW hp
    refine ⟨rfl, ?_⟩
    go_big_quiet_op
    apply Exists.intro
    refine ⟨fun x => ?_, ?_⟩
    · (first | (go_at_call 41; exact draw_of_same _ ((T1 _).out)) | (go_at_call 64; exact draw_of _ ((T2 _).out)) | (go_at_call 72; exact draw_of _ ((T3 _).out)))
    exact rfl
  · exact locS_const _
  try simp only [Act.put, List.setIfInBounds_toArray, List.set_cons_succ, List.set_cons_zero, Nat.reduceAdd]
  apply wpS_end
  intro γ w1 hb1 hG1 hA1
  clear hG1 hA1
  simp only [List.drop_succ_cons, List.drop_zero]
  have hz1 := hb1.size
  (try simp only [World.size_alloc, World.size_setCell, World.size_drew, World.size_drewN'] at hz1)
  (try (have kq := cellAt hb1 (w.heap.size) (by go_size); have k1_w_0_0 := kq 0; have k1_w_0_1 := kq 1; have k1_w_0_2 := kq 2; clear kq; have f1_w_0 := frozAt hb1 (w.heap.size) (by go_size); simp [go_sem, *] at k1_w_0_0 k1_w_0_1 k1_w_0_2 f1_w_0))
  (try have l1_w_0 : w.heap.size < w1.heap.size := by omega)
  go_wp2_with fail
  go_ret
  refine ⟨rfl, ?_⟩
  repeat' first | (with_reducible first | apply zRf | assumption | apply zDn | apply zDr | apply zAl | apply zSt | refine zVi (by assumption) ?_ ?_) | go_size
def cpV (x n p : Int) (k : Nat) : Nat := oft (x % n) p k
theorem oft_natAbs : True := trivial
/-- the closure that counts how often the prime divides, at most k times; x is a sum of two residues -/
theorem capped_any (x p : Int) (k : Nat) (gn gk gp : Nat) (w : World) (hp : 2 ≤ p) (hp2 : p ≤ 1000) (hk2 : k ≤ 1000) (hM : p ^ k ≤ 1000000000) (hx : 0 ≤ x) (hx2 : x ≤ 2000000000)
    (h1 : w.cell? ⟨gn, 0, none⟩ = some (.int .i64 (p ^ k))) (h2 : w.cell? ⟨gk, 0, none⟩ = some (.int .i64 k)) (h3 : w.cell? ⟨gp, 0, none⟩ = some (.int .i64 p)) (l1 : gn < w.heap.size) (l2 : gk < w.heap.size) (l3 : gp < w.heap.size) :
    Calls Try.prog 61 #[.int .i64 x, .pointer (some ⟨gn, 0, none⟩), .pointer (some ⟨gk, 0, none⟩), .pointer (some ⟨gp, 0, none⟩)] w fun r w' => r = .returned (.int .i64 (oft (x % p ^ k) p k : Nat)) ∧ Below w.heap.size w w' := by
  have hq1 := pow_pos' (p := p) (by omega) k
  have hr1 : 0 ≤ x % p ^ k := Int.emod_nonneg _ (by omega)
  have hr2 : x % p ^ k < p ^ k := Int.emod_lt_of_pos _ (by omega)
  by_cases h0 : x % p ^ k = 0
  · rw [h0, oft_zero]
    have h0' : (x % p ^ k == 0) = true := by simp [h0]
    clear h0
    generalize p ^ k = q at *
    generalize (k : Int) = kk at *
    go_enter Try.func61, Try.ntmps61
    go_wp2_with fail
    go_ret
    refine ⟨rfl, ?_⟩
    repeat' first | (with_reducible first | apply zRf | assumption | apply zDn | apply zDr | apply zAl | apply zSt | refine zVi (by assumption) ?_ ?_) | go_size
  · rw [oft_pos hp (by omega) hr2]
    have h0' : (x % p ^ k == 0) = false := by simp [h0]
    have T4 := fun W : World => Lib.hid (valuation_any (x % p ^ k) p W hp (by omega) h0 (by omega) (by omega))
    clear h0
    have hq0 : p ^ k ≠ 0 := by omega
    have hqm : p ^ k ≠ -1 := by omega
    generalize p ^ k = q at *
    generalize ((vl (x % q) p : Nat) : Int) = v at *
    generalize (k : Int) = kk at *
    go_enter Try.func61, Try.ntmps61
    go_wp2_with fail
    refine wp_drawn' (n := 5) (by kernel_rfl) (by kernel_rfl) (by kernel_rfl) ?_
    apply Exists.intro
    refine ⟨?_, ?_⟩
    · intro W hW
      try (have kx_gn_0 := fun x => xcell hW (gn) (by go_size) x 0; simp [go_sem, *] at kx_gn_0)
      try (have kx_gk_0 := fun x => xcell hW (gk) (by go_size) x 0; simp [go_sem, *] at kx_gk_0)
      try (have kx_gp_0 := fun x => xcell hW (gp) (by go_size) x 0; simp [go_sem, *] at kx_gp_0)
      simp only [List.take_succ_cons, List.take_zero]
      repeat (go_big_quiet_step ((first | (go_at_call 62; exact draw_of_same _ ((T4 _).out)))))
      exact wpQuiet_nil rfl
    intro w1 hb1
    simp only [List.drop_succ_cons, List.drop_zero, Act.put, List.setIfInBounds_toArray, List.set_cons_succ, List.set_cons_zero]
    have hz1 := hb1.size
    (try simp only [World.size_alloc, World.size_setCell, World.size_drew, World.size_drewN'] at hz1)
    (try (have kq := cellAt hb1 (gn) (by go_size); have k1_gn_0 := kq 0; clear kq; have f1_gn := frozAt hb1 (gn) (by go_size); simp [go_sem, *] at k1_gn_0 f1_gn))
    (try have l1_gn : gn < w1.heap.size := by omega)
    (try (have kq := cellAt hb1 (gk) (by go_size); have k1_gk_0 := kq 0; clear kq; have f1_gk := frozAt hb1 (gk) (by go_size); simp [go_sem, *] at k1_gk_0 f1_gk))
    (try have l1_gk : gk < w1.heap.size := by omega)
    (try (have kq := cellAt hb1 (gp) (by go_size); have k1_gp_0 := kq 0; clear kq; have f1_gp := frozAt hb1 (gp) (by go_size); simp [go_sem, *] at k1_gp_0 f1_gp))
    (try have l1_gp : gp < w1.heap.size := by omega)
    go_wp2_with fail
    go_ret
    refine ⟨rfl, ?_⟩
    repeat' first | (with_reducible first | apply zRf | assumption | apply zDn | apply zDr | apply zAl | apply zSt | refine zVi (by assumption) ?_ ?_) | go_size
end Go.Proofs.Ytegiddpakocodaa
