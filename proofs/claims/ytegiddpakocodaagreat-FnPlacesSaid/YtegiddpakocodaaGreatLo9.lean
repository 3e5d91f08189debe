/- Pairs that lift: the program's side. -/
import Derived.Test.YtegiddpakocodaaGreatLo8
namespace Go.Proofs.YtegiddpakocodaaGreat
open Go.RowKit
set_option linter.unusedVariables false
set_option maxHeartbeats 4000000
set_option maxRecDepth 20000
set_option linter.unusedSimpArgs false
attribute [local go_sem] openAt openUpon
theorem oft_le (x p : Int) (k : Nat) : oft x p k ≤ k := by unfold oft; split <;> omega
theorem lifts_any (D A C m e p : Int) (k : Nat) (w : World) (hp : 2 ≤ p) (hp2 : p ≤ 1000) (hk1 : 1 ≤ k) (hk2 : k ≤ 1000) (hM : p ^ k ≤ 1000000000) :
    Calls Tryz.prog 79 #[.agg #[.int .i64 D, .int .i64 A, .int .i64 C], .int .i64 m, .int .i64 e, .int .i64 p, .int .i64 k] w fun r w' => r = .returned (.bool (liB D A C m e p k)) ∧ Below w.heap.size w w' := by
  have hn := pow_mono' (p := p) (by omega) hk1
  rw [show p ^ 1 = p by rw [Int.pow_succ, Int.pow_zero, Int.one_mul]] at hn
  replace hn : 2 ≤ p ^ k := by omega
  have hn2 := hM
  have T1 := fun W : World => Lib.hid (possible_any D A C m e p k W hp hp2 hk1 hk2 hM)
  have T0 := fun W : World => Lib.hid (intPower_any p k W (by omega) (by omega) (by omega) (by rw [Int.toNat_natCast]; omega))
  rw [Int.toNat_natCast] at T0
  have T2 := fun W : World => Lib.hid (valueModulo_any D A C m e (p ^ k) W hn hn2)
  have T5 := fun (x : Int) (gn gk gp : Nat) (W : World) (hx : 0 ≤ x) (hx2 : x ≤ 2000000000) h1 h2 h3 l1 l2 l3 => Lib.hid (capped_any x p k gn gk gp W hp hp2 hk2 hM hx hx2 h1 h2 h3 l1 l2 l3)
  have c1 := prM_bd [4, D, m, m, m] (show 0 < p ^ k by omega)
  have c2 := prM_bd [2, A, m, e, e] (show 0 < p ^ k by omega)
  have c3 := prM_bd [2, A, m, m, e] (show 0 < p ^ k by omega)
  have c4 := prM_bd [4, C, e, e, e] (show 0 < p ^ k by omega)
  have d1 := Lib.hid (dm_impl D A m e (p ^ k))
  have d2 := Lib.hid (de_impl A C m e (p ^ k))
  have o1 := oft_le (dmM D A m e (p ^ k)) p k
  have o2 := oft_le (deM A C m e (p ^ k)) p k
  cases hpo : poB D A C m e p k
  · rw [hpo] at T1
    rw [show liB D A C m e p k = false by simp [liB, hpo]]
    clear hpo T0 T2 T5 c1 c2 c3 c4 d1 d2 o1 o2
    generalize (k : Int) = kk at *
    have tok1 : True := trivial
    have tok2 : True := trivial
    have tok3 : True := trivial
    go_enter Tryz.func79, Tryz.ntmps79
    go_wp2_with (first | (have _t := tok1; go_at_call 94; (with_reducible refine ((T1 _).out).mono ?_); rintro e w1 ⟨rfl, hb1⟩; clear tok1 _t; have hz1 := hb1.size; (try simp only [World.size_alloc, World.size_setCell, World.size_drew, World.size_drewN'] at hz1); (try (have kq := cellAt hb1 (w.heap.size) (by go_size); have k1_w_0_0 := kq 0; have k1_w_0_1 := kq 1; have k1_w_0_2 := kq 2; clear kq; have f1_w_0 := frozAt hb1 (w.heap.size) (by go_size); simp [go_sem, *] at k1_w_0_0 k1_w_0_1 k1_w_0_2 f1_w_0)); (try have l1_w_0 : w.heap.size < w1.heap.size := by omega); (try (have kq := cellAt hb1 (w.heap.size + 1) (by go_size); have k1_w_1_0 := kq 0; clear kq; have f1_w_1 := frozAt hb1 (w.heap.size + 1) (by go_size); simp [go_sem, *] at k1_w_1_0 f1_w_1)); (try have l1_w_1 : w.heap.size + 1 < w1.heap.size := by omega); (try (have kq := cellAt hb1 (w.heap.size + 1 + 1) (by go_size); have k1_w_2_0 := kq 0; clear kq; have f1_w_2 := frozAt hb1 (w.heap.size + 1 + 1) (by go_size); simp [go_sem, *] at k1_w_2_0 f1_w_2)); (try have l1_w_2 : w.heap.size + 1 + 1 < w1.heap.size := by omega)) | (go_at_call 62; (with_reducible refine ((T0 _).out).mono ?_); rintro e w' ⟨rfl, rfl⟩) | (have _t := tok3; go_at_call 97; (with_reducible refine ((T2 _).out).mono ?_); rintro e w3 ⟨rfl, hb3⟩; clear tok3 _t; have hz3 := hb3.size; (try simp only [World.size_alloc, World.size_setCell, World.size_drew, World.size_drewN'] at hz3); (try (have kq := cellAt hb3 (w.heap.size) (by go_size); have k3_w_0_0 := kq 0; have k3_w_0_1 := kq 1; have k3_w_0_2 := kq 2; clear kq; have f3_w_0 := frozAt hb3 (w.heap.size) (by go_size); simp [go_sem, *] at k3_w_0_0 k3_w_0_1 k3_w_0_2 f3_w_0)); (try have l3_w_0 : w.heap.size < w3.heap.size := by omega); (try (have kq := cellAt hb3 (w.heap.size + 1) (by go_size); have k3_w_1_0 := kq 0; clear kq; have f3_w_1 := frozAt hb3 (w.heap.size + 1) (by go_size); simp [go_sem, *] at k3_w_1_0 f3_w_1)); (try have l3_w_1 : w.heap.size + 1 < w3.heap.size := by omega); (try (have kq := cellAt hb3 (w.heap.size + 1 + 1) (by go_size); have k3_w_2_0 := kq 0; clear kq; have f3_w_2 := frozAt hb3 (w.heap.size + 1 + 1) (by go_size); simp [go_sem, *] at k3_w_2_0 f3_w_2)); (try have l3_w_2 : w.heap.size + 1 + 1 < w3.heap.size := by omega); (try (have kq := cellAt hb3 (w1.heap.size) (by go_size); have k3_w1_0_0 := kq 0; clear kq; have f3_w1_0 := frozAt hb3 (w1.heap.size) (by go_size); simp [go_sem, *] at k3_w1_0_0 f3_w1_0)); (try have l3_w1_0 : w1.heap.size < w3.heap.size := by omega); (try clear k1_w_0_0 k1_w_0_1 k1_w_0_2 f1_w_0); (try clear l1_w_0); (try clear k1_w_1_0 f1_w_1); (try clear l1_w_1); (try clear k1_w_2_0 f1_w_2); (try clear l1_w_2); (try clear k2_w_0_0 k2_w_0_1 k2_w_0_2 f2_w_0); (try clear l2_w_0); (try clear k2_w_1_0 f2_w_1); (try clear l2_w_1); (try clear k2_w_2_0 f2_w_2); (try clear l2_w_2); (try clear k2_w1_0_0 f2_w1_0); (try clear l2_w1_0)) | (go_at_call 63; (with_reducible refine ((T6 _).out).mono ?_); rintro e w' ⟨rfl, rfl⟩))
    go_ret
    refine ⟨rfl, ?_⟩
    repeat' first | (with_reducible first | apply zRf | assumption | apply zDn | apply zDr | apply zAl | apply zSt | refine zVi (by assumption) ?_ ?_) | go_size
  · rw [hpo] at T1
    have HL := Lib.hid (show liB D A C m e p k = decide (2 * liW D A C m e p k + 1 ≤ k) by simp [liB, hpo])
    have hvb : 0 ≤ vaM D A C m e (p ^ k) ∧ vaM D A C m e (p ^ k) < p ^ k := ⟨Int.emod_nonneg _ (by omega), Int.emod_lt_of_pos _ (by omega)⟩
    clear hpo
    have T5a := fun gn gk gp W h1 h2 h3 l1 l2 l3 => T5 (prM [4, D, m, m, m] (p ^ k) + prM [2, A, m, e, e] (p ^ k)) gn gk gp W (by omega) (by omega) h1 h2 h3 l1 l2 l3
    have T5b := fun gn gk gp W h1 h2 h3 l1 l2 l3 => T5 (prM [2, A, m, m, e] (p ^ k) + prM [4, C, e, e, e] (p ^ k)) gn gk gp W (by omega) (by omega) h1 h2 h3 l1 l2 l3
    rw [d1.out] at T5a
    rw [d2.out] at T5b
    clear T5 d1 d2
    have W1 := Lib.hid (show vaM D A C m e (p ^ k) = 0 → liW D A C m e p k = min (oft (dmM D A m e (p ^ k)) p k) (oft (deM A C m e (p ^ k)) p k) by intro hv; simp [liW, hv])
    have W2 := Lib.hid (show vaM D A C m e (p ^ k) ≠ 0 → liW D A C m e p k = min (min (oft (dmM D A m e (p ^ k)) p k) (oft (deM A C m e (p ^ k)) p k)) (hlf (vaM D A C m e (p ^ k)) p) by intro hv; simp [liW, hv])
    generalize oft (dmM D A m e (p ^ k)) p k = u1 at *
    generalize oft (deM A C m e (p ^ k)) p k = u2 at *
    generalize liW D A C m e p k = W0 at *
    generalize liB D A C m e p k = R at *
    by_cases hv : vaM D A C m e (p ^ k) = 0
    · have HW := Lib.hid (W1.out hv)
      rw [hv] at T2
      have T6 := T2
      clear hv W1 W2 hvb
      generalize p ^ k = q at *
      have tok1 : True := trivial
      have tok2 : True := trivial
      have tok3 : True := trivial
      go_enter Tryz.func79, Tryz.ntmps79
      go_wp2_with (first | (have _t := tok1; go_at_call 94; (with_reducible refine ((T1 _).out).mono ?_); rintro e w1 ⟨rfl, hb1⟩; clear tok1 _t; have hz1 := hb1.size; (try simp only [World.size_alloc, World.size_setCell, World.size_drew, World.size_drewN'] at hz1); (try (have kq := cellAt hb1 (w.heap.size) (by go_size); have k1_w_0_0 := kq 0; have k1_w_0_1 := kq 1; have k1_w_0_2 := kq 2; clear kq; have f1_w_0 := frozAt hb1 (w.heap.size) (by go_size); simp [go_sem, *] at k1_w_0_0 k1_w_0_1 k1_w_0_2 f1_w_0)); (try have l1_w_0 : w.heap.size < w1.heap.size := by omega); (try (have kq := cellAt hb1 (w.heap.size + 1) (by go_size); have k1_w_1_0 := kq 0; clear kq; have f1_w_1 := frozAt hb1 (w.heap.size + 1) (by go_size); simp [go_sem, *] at k1_w_1_0 f1_w_1)); (try have l1_w_1 : w.heap.size + 1 < w1.heap.size := by omega); (try (have kq := cellAt hb1 (w.heap.size + 1 + 1) (by go_size); have k1_w_2_0 := kq 0; clear kq; have f1_w_2 := frozAt hb1 (w.heap.size + 1 + 1) (by go_size); simp [go_sem, *] at k1_w_2_0 f1_w_2)); (try have l1_w_2 : w.heap.size + 1 + 1 < w1.heap.size := by omega)) | (go_at_call 62; (with_reducible refine ((T0 _).out).mono ?_); rintro e w' ⟨rfl, rfl⟩) | (have _t := tok3; go_at_call 97; (with_reducible refine ((T2 _).out).mono ?_); rintro e w3 ⟨rfl, hb3⟩; clear tok3 _t; have hz3 := hb3.size; (try simp only [World.size_alloc, World.size_setCell, World.size_drew, World.size_drewN'] at hz3); (try (have kq := cellAt hb3 (w.heap.size) (by go_size); have k3_w_0_0 := kq 0; have k3_w_0_1 := kq 1; have k3_w_0_2 := kq 2; clear kq; have f3_w_0 := frozAt hb3 (w.heap.size) (by go_size); simp [go_sem, *] at k3_w_0_0 k3_w_0_1 k3_w_0_2 f3_w_0)); (try have l3_w_0 : w.heap.size < w3.heap.size := by omega); (try (have kq := cellAt hb3 (w.heap.size + 1) (by go_size); have k3_w_1_0 := kq 0; clear kq; have f3_w_1 := frozAt hb3 (w.heap.size + 1) (by go_size); simp [go_sem, *] at k3_w_1_0 f3_w_1)); (try have l3_w_1 : w.heap.size + 1 < w3.heap.size := by omega); (try (have kq := cellAt hb3 (w.heap.size + 1 + 1) (by go_size); have k3_w_2_0 := kq 0; clear kq; have f3_w_2 := frozAt hb3 (w.heap.size + 1 + 1) (by go_size); simp [go_sem, *] at k3_w_2_0 f3_w_2)); (try have l3_w_2 : w.heap.size + 1 + 1 < w3.heap.size := by omega); (try (have kq := cellAt hb3 (w1.heap.size) (by go_size); have k3_w1_0_0 := kq 0; clear kq; have f3_w1_0 := frozAt hb3 (w1.heap.size) (by go_size); simp [go_sem, *] at k3_w1_0_0 f3_w1_0)); (try have l3_w1_0 : w1.heap.size < w3.heap.size := by omega); (try clear k1_w_0_0 k1_w_0_1 k1_w_0_2 f1_w_0); (try clear l1_w_0); (try clear k1_w_1_0 f1_w_1); (try clear l1_w_1); (try clear k1_w_2_0 f1_w_2); (try clear l1_w_2); (try clear k2_w_0_0 k2_w_0_1 k2_w_0_2 f2_w_0); (try clear l2_w_0); (try clear k2_w_1_0 f2_w_1); (try clear l2_w_1); (try clear k2_w_2_0 f2_w_2); (try clear l2_w_2); (try clear k2_w1_0_0 f2_w1_0); (try clear l2_w1_0)) | (go_at_call 63; (with_reducible refine ((T6 _).out).mono ?_); rintro e w' ⟨rfl, rfl⟩))
      refine wp_open (n := 39) (by kernel_rfl) (by kernel_rfl) (by kernel_rfl) (by kernel_rfl) ?_
      simp only [List.take_succ_cons, List.take_zero]
      apply wpS_quiet
      · intro γ W hW hp
        refine ⟨rfl, ?_⟩
        go_big_quiet_op
        first | exact rfl
      · exact locS_const _
      try simp only [Act.put, List.setIfInBounds_toArray, List.set_cons_succ, List.set_cons_zero, Nat.reduceAdd]
      apply wpS_quiet
      · intro γ W hW hp
        refine ⟨rfl, ?_⟩
        go_big_quiet_op
        first | exact rfl
      · exact locS_const _
      try simp only [Act.put, List.setIfInBounds_toArray, List.set_cons_succ, List.set_cons_zero, Nat.reduceAdd]
      apply wpS_quiet
      · intro γ W hW hp
        refine ⟨rfl, ?_⟩
        go_big_quiet_op
        first | exact rfl
      · exact locS_const _
      try simp only [Act.put, List.setIfInBounds_toArray, List.set_cons_succ, List.set_cons_zero, Nat.reduceAdd]
      apply wpS_quiet
      · intro γ W hW hp
        have hs := hW.size
        (try simp only [World.size_alloc, World.size_setCell, World.size_drew, World.size_drewN'] at hs)
        try (have kx_w_0_0 := fun x : Over W => (cellAt x.lies (w.heap.size) (by omega) 0).trans (cellAt hW (w.heap.size) (by go_size) 0); simp [go_sem, *] at kx_w_0_0)
        try (have kx_w_0_1 := fun x : Over W => (cellAt x.lies (w.heap.size) (by omega) 1).trans (cellAt hW (w.heap.size) (by go_size) 1); simp [go_sem, *] at kx_w_0_1)
        try (have kx_w_0_2 := fun x : Over W => (cellAt x.lies (w.heap.size) (by omega) 2).trans (cellAt hW (w.heap.size) (by go_size) 2); simp [go_sem, *] at kx_w_0_2)
        try (have kx_w_1_0 := fun x : Over W => (cellAt x.lies (w.heap.size + 1) (by omega) 0).trans (cellAt hW (w.heap.size + 1) (by go_size) 0); simp [go_sem, *] at kx_w_1_0)
        try (have kx_w_2_0 := fun x : Over W => (cellAt x.lies (w.heap.size + 1 + 1) (by omega) 0).trans (cellAt hW (w.heap.size + 1 + 1) (by go_size) 0); simp [go_sem, *] at kx_w_2_0)
        try (have kx_w1_0_0 := fun x : Over W => (cellAt x.lies (w1.heap.size) (by omega) 0).trans (cellAt hW (w1.heap.size) (by go_size) 0); simp [go_sem, *] at kx_w1_0_0)
        clear hW hp
        refine ⟨rfl, ?_⟩
        go_big_quiet_op
        first | exact rfl
      · exact locS_const _
      try simp only [Act.put, List.setIfInBounds_toArray, List.set_cons_succ, List.set_cons_zero, Nat.reduceAdd]
      apply wpS_quiet
      · intro γ W hW hp
        refine ⟨rfl, ?_⟩
        go_big_quiet_op
        first | exact rfl
      · exact locS_const _
      try simp only [Act.put, List.setIfInBounds_toArray, List.set_cons_succ, List.set_cons_zero, Nat.reduceAdd]
      apply wpS_quiet
      · intro γ W hW hp
        refine ⟨rfl, ?_⟩
        go_big_quiet_op
        first | exact rfl
      · exact locS_const _
      try simp only [Act.put, List.setIfInBounds_toArray, List.set_cons_succ, List.set_cons_zero, Nat.reduceAdd]
      apply wpS_quiet
      · intro γ W hW hp
        refine ⟨rfl, ?_⟩
        go_big_quiet_op
        first | exact rfl
      · exact locS_const _
      try simp only [Act.put, List.setIfInBounds_toArray, List.set_cons_succ, List.set_cons_zero, Nat.reduceAdd]
      apply wpS_open (newRow _ _ _ 5)
      · intro γ W hW hp
        refine ⟨rfl, ?_⟩
        go_simp
        exact ⟨⟨⟨_, rfl, hW.size, heap_alloc_new _ _⟩, fun e => by cases e⟩, (Below.refl _ _).alloc (Nat.le_refl _) _⟩
      try simp only [Act.put, List.setIfInBounds_toArray, List.set_cons_succ, List.set_cons_zero, Nat.reduceAdd]
      apply wpS_quiet
      · intro γ W hW hp
        obtain ⟨g_7, e_7, l_7, k_7⟩ := hp _ (List.mem_append_right _ (List.mem_singleton.2 rfl)) (by kernel_rfl)
        dsimp only at e_7 l_7 k_7
        refine ⟨rfl, ?_⟩
        have E_7 := Lib.hid e_7
        clear e_7
        go_big_quiet_op
        apply Exists.intro
        refine ⟨fun x => ?_, ?_⟩
        · rw [E_7.out]
          have kk_7 := (x.lies.block _ (blk_lt' k_7)).trans k_7
          (first | (go_at_call 96; exact draw_of_same _ (times_five _ _ _ _ _ _ _ _ hn hn2 _ kk_7)) | (go_at_call 95; (with_reducible exact draw_of _ ((T5a _ _ _ _ (kx_w1_0_0 x) (kx_w_2_0 x) (kx_w_1_0 x) (by have := x.lies.size; omega) (by have := x.lies.size; omega) (by have := x.lies.size; omega)).out))) | (go_at_call 95; (with_reducible exact draw_of _ ((T5b _ _ _ _ (kx_w1_0_0 x) (kx_w_2_0 x) (kx_w_1_0 x) (by have := x.lies.size; omega) (by have := x.lies.size; omega) (by have := x.lies.size; omega)).out))))
        exact rfl
      · intro γ k g hk
        have h_7 : updV γ k g 7 = γ 7 := updV_other γ g (fun e => by subst e; exact absurd hk (by rw [show reachB .any _ 100 8 7 = true from by kernel_rfl]; simp))
        first | rfl | simp only [h_7]
      try simp only [Act.put, List.setIfInBounds_toArray, List.set_cons_succ, List.set_cons_zero, Nat.reduceAdd]
      apply wpS_quiet
      · intro γ W hW hp
        refine ⟨rfl, ?_⟩
        go_big_quiet_op
        first | exact rfl
      · exact locS_const _
      try simp only [Act.put, List.setIfInBounds_toArray, List.set_cons_succ, List.set_cons_zero, Nat.reduceAdd]
      apply wpS_quiet
      · intro γ W hW hp
        refine ⟨rfl, ?_⟩
        go_big_quiet_op
        first | exact rfl
      · exact locS_const _
      try simp only [Act.put, List.setIfInBounds_toArray, List.set_cons_succ, List.set_cons_zero, Nat.reduceAdd]
      apply wpS_quiet
      · intro γ W hW hp
        have hs := hW.size
        (try simp only [World.size_alloc, World.size_setCell, World.size_drew, World.size_drewN'] at hs)
        try (have kx_w_0_0 := fun x : Over W => (cellAt x.lies (w.heap.size) (by omega) 0).trans (cellAt hW (w.heap.size) (by go_size) 0); simp [go_sem, *] at kx_w_0_0)
        try (have kx_w_0_1 := fun x : Over W => (cellAt x.lies (w.heap.size) (by omega) 1).trans (cellAt hW (w.heap.size) (by go_size) 1); simp [go_sem, *] at kx_w_0_1)
        try (have kx_w_0_2 := fun x : Over W => (cellAt x.lies (w.heap.size) (by omega) 2).trans (cellAt hW (w.heap.size) (by go_size) 2); simp [go_sem, *] at kx_w_0_2)
        try (have kx_w_1_0 := fun x : Over W => (cellAt x.lies (w.heap.size + 1) (by omega) 0).trans (cellAt hW (w.heap.size + 1) (by go_size) 0); simp [go_sem, *] at kx_w_1_0)
        try (have kx_w_2_0 := fun x : Over W => (cellAt x.lies (w.heap.size + 1 + 1) (by omega) 0).trans (cellAt hW (w.heap.size + 1 + 1) (by go_size) 0); simp [go_sem, *] at kx_w_2_0)
        try (have kx_w1_0_0 := fun x : Over W => (cellAt x.lies (w1.heap.size) (by omega) 0).trans (cellAt hW (w1.heap.size) (by go_size) 0); simp [go_sem, *] at kx_w1_0_0)
        clear hW hp
        refine ⟨rfl, ?_⟩
        go_big_quiet_op
        first | exact rfl
      · exact locS_const _
      try simp only [Act.put, List.setIfInBounds_toArray, List.set_cons_succ, List.set_cons_zero, Nat.reduceAdd]
      apply wpS_quiet
      · intro γ W hW hp
        refine ⟨rfl, ?_⟩
        go_big_quiet_op
        first | exact rfl
      · exact locS_const _
      try simp only [Act.put, List.setIfInBounds_toArray, List.set_cons_succ, List.set_cons_zero, Nat.reduceAdd]
      apply wpS_quiet
      · intro γ W hW hp
        refine ⟨rfl, ?_⟩
        go_big_quiet_op
        first | exact rfl
      · exact locS_const _
      try simp only [Act.put, List.setIfInBounds_toArray, List.set_cons_succ, List.set_cons_zero, Nat.reduceAdd]
      apply wpS_quiet
      · intro γ W hW hp
        refine ⟨rfl, ?_⟩
        go_big_quiet_op
        first | exact rfl
      · exact locS_const _
      try simp only [Act.put, List.setIfInBounds_toArray, List.set_cons_succ, List.set_cons_zero, Nat.reduceAdd]
      apply wpS_open (newRow _ _ _ 5)
      · intro γ W hW hp
        refine ⟨rfl, ?_⟩
        go_simp
        exact ⟨⟨⟨_, rfl, hW.size, heap_alloc_new _ _⟩, fun e => by cases e⟩, (Below.refl _ _).alloc (Nat.le_refl _) _⟩
      try simp only [Act.put, List.setIfInBounds_toArray, List.set_cons_succ, List.set_cons_zero, Nat.reduceAdd]
      apply wpS_quiet
      · intro γ W hW hp
        obtain ⟨g_15, e_15, l_15, k_15⟩ := hp _ (List.mem_append_right _ (List.mem_singleton.2 rfl)) (by kernel_rfl)
        dsimp only at e_15 l_15 k_15
        refine ⟨rfl, ?_⟩
        have E_15 := Lib.hid e_15
        clear e_15
        go_big_quiet_op
        apply Exists.intro
        refine ⟨fun x => ?_, ?_⟩
        · rw [E_15.out]
          have kk_15 := (x.lies.block _ (blk_lt' k_15)).trans k_15
          (first | (go_at_call 96; exact draw_of_same _ (times_five _ _ _ _ _ _ _ _ hn hn2 _ kk_15)) | (go_at_call 95; (with_reducible exact draw_of _ ((T5a _ _ _ _ (kx_w1_0_0 x) (kx_w_2_0 x) (kx_w_1_0 x) (by have := x.lies.size; omega) (by have := x.lies.size; omega) (by have := x.lies.size; omega)).out))) | (go_at_call 95; (with_reducible exact draw_of _ ((T5b _ _ _ _ (kx_w1_0_0 x) (kx_w_2_0 x) (kx_w_1_0 x) (by have := x.lies.size; omega) (by have := x.lies.size; omega) (by have := x.lies.size; omega)).out))))
        exact rfl
      · intro γ k g hk
        have h_15 : updV γ k g 15 = γ 15 := updV_other γ g (fun e => by subst e; exact absurd hk (by rw [show reachB .any _ 100 16 15 = true from by kernel_rfl]; simp))
        first | rfl | simp only [h_15]
      try simp only [Act.put, List.setIfInBounds_toArray, List.set_cons_succ, List.set_cons_zero, Nat.reduceAdd]
      apply wpS_quiet
      · intro γ W hW hp
        refine ⟨rfl, ?_⟩
        go_big_quiet_op
        first | exact rfl
      · exact locS_const _
      try simp only [Act.put, List.setIfInBounds_toArray, List.set_cons_succ, List.set_cons_zero, Nat.reduceAdd]
      apply wpS_quiet
      · intro γ W hW hp
        have hs := hW.size
        (try simp only [World.size_alloc, World.size_setCell, World.size_drew, World.size_drewN'] at hs)
        try (have kx_w_0_0 := fun x : Over W => (cellAt x.lies (w.heap.size) (by omega) 0).trans (cellAt hW (w.heap.size) (by go_size) 0); simp [go_sem, *] at kx_w_0_0)
        try (have kx_w_0_1 := fun x : Over W => (cellAt x.lies (w.heap.size) (by omega) 1).trans (cellAt hW (w.heap.size) (by go_size) 1); simp [go_sem, *] at kx_w_0_1)
        try (have kx_w_0_2 := fun x : Over W => (cellAt x.lies (w.heap.size) (by omega) 2).trans (cellAt hW (w.heap.size) (by go_size) 2); simp [go_sem, *] at kx_w_0_2)
        try (have kx_w_1_0 := fun x : Over W => (cellAt x.lies (w.heap.size + 1) (by omega) 0).trans (cellAt hW (w.heap.size + 1) (by go_size) 0); simp [go_sem, *] at kx_w_1_0)
        try (have kx_w_2_0 := fun x : Over W => (cellAt x.lies (w.heap.size + 1 + 1) (by omega) 0).trans (cellAt hW (w.heap.size + 1 + 1) (by go_size) 0); simp [go_sem, *] at kx_w_2_0)
        try (have kx_w1_0_0 := fun x : Over W => (cellAt x.lies (w1.heap.size) (by omega) 0).trans (cellAt hW (w1.heap.size) (by go_size) 0); simp [go_sem, *] at kx_w1_0_0)
        clear hW hp
        refine ⟨rfl, ?_⟩
        go_big_quiet_op
        apply Exists.intro
        refine ⟨fun x => ?_, ?_⟩
        · (first | (go_at_call 96; exact draw_of_same _ (times_five _ _ _ _ _ _ _ _ hn hn2 _ %K)) | (go_at_call 95; (with_reducible exact draw_of _ ((T5a _ _ _ _ (kx_w1_0_0 x) (kx_w_2_0 x) (kx_w_1_0 x) (by have := x.lies.size; omega) (by have := x.lies.size; omega) (by have := x.lies.size; omega)).out))) | (go_at_call 95; (with_reducible exact draw_of _ ((T5b _ _ _ _ (kx_w1_0_0 x) (kx_w_2_0 x) (kx_w_1_0 x) (by have := x.lies.size; omega) (by have := x.lies.size; omega) (by have := x.lies.size; omega)).out))))
        exact rfl
      · exact locS_const _
      try simp only [Act.put, List.setIfInBounds_toArray, List.set_cons_succ, List.set_cons_zero, Nat.reduceAdd]
      apply wpS_quiet
      · intro γ W hW hp
        refine ⟨rfl, ?_⟩
        go_big_quiet_op
        first | exact rfl
      · exact locS_const _
      try simp only [Act.put, List.setIfInBounds_toArray, List.set_cons_succ, List.set_cons_zero, Nat.reduceAdd]
      apply wpS_quiet
      · intro γ W hW hp
        refine ⟨rfl, ?_⟩
        go_big_quiet_op
        first | exact rfl
      · exact locS_const _
      try simp only [Act.put, List.setIfInBounds_toArray, List.set_cons_succ, List.set_cons_zero, Nat.reduceAdd]
      apply wpS_quiet
      · intro γ W hW hp
        refine ⟨rfl, ?_⟩
        go_big_quiet_op
        first | exact rfl
      · exact locS_const _
      try simp only [Act.put, List.setIfInBounds_toArray, List.set_cons_succ, List.set_cons_zero, Nat.reduceAdd]
      apply wpS_quiet
      · intro γ W hW hp
        have hs := hW.size
        (try simp only [World.size_alloc, World.size_setCell, World.size_drew, World.size_drewN'] at hs)
        try (have kx_w_0_0 := fun x : Over W => (cellAt x.lies (w.heap.size) (by omega) 0).trans (cellAt hW (w.heap.size) (by go_size) 0); simp [go_sem, *] at kx_w_0_0)
        try (have kx_w_0_1 := fun x : Over W => (cellAt x.lies (w.heap.size) (by omega) 1).trans (cellAt hW (w.heap.size) (by go_size) 1); simp [go_sem, *] at kx_w_0_1)
        try (have kx_w_0_2 := fun x : Over W => (cellAt x.lies (w.heap.size) (by omega) 2).trans (cellAt hW (w.heap.size) (by go_size) 2); simp [go_sem, *] at kx_w_0_2)
        try (have kx_w_1_0 := fun x : Over W => (cellAt x.lies (w.heap.size + 1) (by omega) 0).trans (cellAt hW (w.heap.size + 1) (by go_size) 0); simp [go_sem, *] at kx_w_1_0)
        try (have kx_w_2_0 := fun x : Over W => (cellAt x.lies (w.heap.size + 1 + 1) (by omega) 0).trans (cellAt hW (w.heap.size + 1 + 1) (by go_size) 0); simp [go_sem, *] at kx_w_2_0)
        try (have kx_w1_0_0 := fun x : Over W => (cellAt x.lies (w1.heap.size) (by omega) 0).trans (cellAt hW (w1.heap.size) (by go_size) 0); simp [go_sem, *] at kx_w1_0_0)
        clear hW hp
        refine ⟨rfl, ?_⟩
        go_big_quiet_op
        first | exact rfl
      · exact locS_const _
      try simp only [Act.put, List.setIfInBounds_toArray, List.set_cons_succ, List.set_cons_zero, Nat.reduceAdd]
      apply wpS_quiet
      · intro γ W hW hp
        refine ⟨rfl, ?_⟩
        go_big_quiet_op
        first | exact rfl
      · exact locS_const _
      try simp only [Act.put, List.setIfInBounds_toArray, List.set_cons_succ, List.set_cons_zero, Nat.reduceAdd]
      apply wpS_quiet
      · intro γ W hW hp
        refine ⟨rfl, ?_⟩
        go_big_quiet_op
        first | exact rfl
      · exact locS_const _
      try simp only [Act.put, List.setIfInBounds_toArray, List.set_cons_succ, List.set_cons_zero, Nat.reduceAdd]
      apply wpS_quiet
      · intro γ W hW hp
        refine ⟨rfl, ?_⟩
        go_big_quiet_op
        first | exact rfl
      · exact locS_const _
      try simp only [Act.put, List.setIfInBounds_toArray, List.set_cons_succ, List.set_cons_zero, Nat.reduceAdd]
      apply wpS_open (newRow _ _ _ 5)
      · intro γ W hW hp
        refine ⟨rfl, ?_⟩
        go_simp
        exact ⟨⟨⟨_, rfl, hW.size, heap_alloc_new _ _⟩, fun e => by cases e⟩, (Below.refl _ _).alloc (Nat.le_refl _) _⟩
      try simp only [Act.put, List.setIfInBounds_toArray, List.set_cons_succ, List.set_cons_zero, Nat.reduceAdd]
      apply wpS_quiet
      · intro γ W hW hp
        obtain ⟨g_26, e_26, l_26, k_26⟩ := hp _ (List.mem_append_right _ (List.mem_singleton.2 rfl)) (by kernel_rfl)
        dsimp only at e_26 l_26 k_26
        refine ⟨rfl, ?_⟩
        have E_26 := Lib.hid e_26
        clear e_26
        go_big_quiet_op
        apply Exists.intro
        refine ⟨fun x => ?_, ?_⟩
        · rw [E_26.out]
          have kk_26 := (x.lies.block _ (blk_lt' k_26)).trans k_26
          (first | (go_at_call 96; exact draw_of_same _ (times_five _ _ _ _ _ _ _ _ hn hn2 _ kk_26)) | (go_at_call 95; (with_reducible exact draw_of _ ((T5a _ _ _ _ (kx_w1_0_0 x) (kx_w_2_0 x) (kx_w_1_0 x) (by have := x.lies.size; omega) (by have := x.lies.size; omega) (by have := x.lies.size; omega)).out))) | (go_at_call 95; (with_reducible exact draw_of _ ((T5b _ _ _ _ (kx_w1_0_0 x) (kx_w_2_0 x) (kx_w_1_0 x) (by have := x.lies.size; omega) (by have := x.lies.size; omega) (by have := x.lies.size; omega)).out))))
        exact rfl
      · intro γ k g hk
        have h_26 : updV γ k g 26 = γ 26 := updV_other γ g (fun e => by subst e; exact absurd hk (by rw [show reachB .any _ 100 27 26 = true from by kernel_rfl]; simp))
        first | rfl | simp only [h_26]
      try simp only [Act.put, List.setIfInBounds_toArray, List.set_cons_succ, List.set_cons_zero, Nat.reduceAdd]
      apply wpS_quiet
      · intro γ W hW hp
        refine ⟨rfl, ?_⟩
        go_big_quiet_op
        first | exact rfl
      · exact locS_const _
      try simp only [Act.put, List.setIfInBounds_toArray, List.set_cons_succ, List.set_cons_zero, Nat.reduceAdd]
      apply wpS_quiet
      · intro γ W hW hp
        refine ⟨rfl, ?_⟩
        go_big_quiet_op
        first | exact rfl
      · exact locS_const _
      try simp only [Act.put, List.setIfInBounds_toArray, List.set_cons_succ, List.set_cons_zero, Nat.reduceAdd]
      apply wpS_quiet
      · intro γ W hW hp
        have hs := hW.size
        (try simp only [World.size_alloc, World.size_setCell, World.size_drew, World.size_drewN'] at hs)
        try (have kx_w_0_0 := fun x : Over W => (cellAt x.lies (w.heap.size) (by omega) 0).trans (cellAt hW (w.heap.size) (by go_size) 0); simp [go_sem, *] at kx_w_0_0)
        try (have kx_w_0_1 := fun x : Over W => (cellAt x.lies (w.heap.size) (by omega) 1).trans (cellAt hW (w.heap.size) (by go_size) 1); simp [go_sem, *] at kx_w_0_1)
        try (have kx_w_0_2 := fun x : Over W => (cellAt x.lies (w.heap.size) (by omega) 2).trans (cellAt hW (w.heap.size) (by go_size) 2); simp [go_sem, *] at kx_w_0_2)
        try (have kx_w_1_0 := fun x : Over W => (cellAt x.lies (w.heap.size + 1) (by omega) 0).trans (cellAt hW (w.heap.size + 1) (by go_size) 0); simp [go_sem, *] at kx_w_1_0)
        try (have kx_w_2_0 := fun x : Over W => (cellAt x.lies (w.heap.size + 1 + 1) (by omega) 0).trans (cellAt hW (w.heap.size + 1 + 1) (by go_size) 0); simp [go_sem, *] at kx_w_2_0)
        try (have kx_w1_0_0 := fun x : Over W => (cellAt x.lies (w1.heap.size) (by omega) 0).trans (cellAt hW (w1.heap.size) (by go_size) 0); simp [go_sem, *] at kx_w1_0_0)
        clear hW hp
        refine ⟨rfl, ?_⟩
        go_big_quiet_op
        first | exact rfl
      · exact locS_const _
      try simp only [Act.put, List.setIfInBounds_toArray, List.set_cons_succ, List.set_cons_zero, Nat.reduceAdd]
      apply wpS_quiet
      · intro γ W hW hp
        refine ⟨rfl, ?_⟩
        go_big_quiet_op
        first | exact rfl
      · exact locS_const _
      try simp only [Act.put, List.setIfInBounds_toArray, List.set_cons_succ, List.set_cons_zero, Nat.reduceAdd]
      apply wpS_quiet
      · intro γ W hW hp
        refine ⟨rfl, ?_⟩
        go_big_quiet_op
        first | exact rfl
      · exact locS_const _
      try simp only [Act.put, List.setIfInBounds_toArray, List.set_cons_succ, List.set_cons_zero, Nat.reduceAdd]
      apply wpS_quiet
      · intro γ W hW hp
        refine ⟨rfl, ?_⟩
        go_big_quiet_op
        first | exact rfl
      · exact locS_const _
      try simp only [Act.put, List.setIfInBounds_toArray, List.set_cons_succ, List.set_cons_zero, Nat.reduceAdd]
      apply wpS_open (newRow _ _ _ 5)
      · intro γ W hW hp
        refine ⟨rfl, ?_⟩
        go_simp
        exact ⟨⟨⟨_, rfl, hW.size, heap_alloc_new _ _⟩, fun e => by cases e⟩, (Below.refl _ _).alloc (Nat.le_refl _) _⟩
      try simp only [Act.put, List.setIfInBounds_toArray, List.set_cons_succ, List.set_cons_zero, Nat.reduceAdd]
      apply wpS_quiet
      · intro γ W hW hp
        obtain ⟨g_34, e_34, l_34, k_34⟩ := hp _ (List.mem_append_right _ (List.mem_singleton.2 rfl)) (by kernel_rfl)
        dsimp only at e_34 l_34 k_34
        refine ⟨rfl, ?_⟩
        have E_34 := Lib.hid e_34
        clear e_34
        go_big_quiet_op
        apply Exists.intro
        refine ⟨fun x => ?_, ?_⟩
        · rw [E_34.out]
          have kk_34 := (x.lies.block _ (blk_lt' k_34)).trans k_34
          (first | (go_at_call 96; exact draw_of_same _ (times_five _ _ _ _ _ _ _ _ hn hn2 _ kk_34)) | (go_at_call 95; (with_reducible exact draw_of _ ((T5a _ _ _ _ (kx_w1_0_0 x) (kx_w_2_0 x) (kx_w_1_0 x) (by have := x.lies.size; omega) (by have := x.lies.size; omega) (by have := x.lies.size; omega)).out))) | (go_at_call 95; (with_reducible exact draw_of _ ((T5b _ _ _ _ (kx_w1_0_0 x) (kx_w_2_0 x) (kx_w_1_0 x) (by have := x.lies.size; omega) (by have := x.lies.size; omega) (by have := x.lies.size; omega)).out))))
        exact rfl
      · intro γ k g hk
        have h_34 : updV γ k g 34 = γ 34 := updV_other γ g (fun e => by subst e; exact absurd hk (by rw [show reachB .any _ 100 35 34 = true from by kernel_rfl]; simp))
        first | rfl | simp only [h_34]
      try simp only [Act.put, List.setIfInBounds_toArray, List.set_cons_succ, List.set_cons_zero, Nat.reduceAdd]
      apply wpS_quiet
      · intro γ W hW hp
        refine ⟨rfl, ?_⟩
        go_big_quiet_op
        first | exact rfl
      · exact locS_const _
      try simp only [Act.put, List.setIfInBounds_toArray, List.set_cons_succ, List.set_cons_zero, Nat.reduceAdd]
      apply wpS_quiet
      · intro γ W hW hp
        have hs := hW.size
        (try simp only [World.size_alloc, World.size_setCell, World.size_drew, World.size_drewN'] at hs)
        try (have kx_w_0_0 := fun x : Over W => (cellAt x.lies (w.heap.size) (by omega) 0).trans (cellAt hW (w.heap.size) (by go_size) 0); simp [go_sem, *] at kx_w_0_0)
        try (have kx_w_0_1 := fun x : Over W => (cellAt x.lies (w.heap.size) (by omega) 1).trans (cellAt hW (w.heap.size) (by go_size) 1); simp [go_sem, *] at kx_w_0_1)
        try (have kx_w_0_2 := fun x : Over W => (cellAt x.lies (w.heap.size) (by omega) 2).trans (cellAt hW (w.heap.size) (by go_size) 2); simp [go_sem, *] at kx_w_0_2)
        try (have kx_w_1_0 := fun x : Over W => (cellAt x.lies (w.heap.size + 1) (by omega) 0).trans (cellAt hW (w.heap.size + 1) (by go_size) 0); simp [go_sem, *] at kx_w_1_0)
        try (have kx_w_2_0 := fun x : Over W => (cellAt x.lies (w.heap.size + 1 + 1) (by omega) 0).trans (cellAt hW (w.heap.size + 1 + 1) (by go_size) 0); simp [go_sem, *] at kx_w_2_0)
        try (have kx_w1_0_0 := fun x : Over W => (cellAt x.lies (w1.heap.size) (by omega) 0).trans (cellAt hW (w1.heap.size) (by go_size) 0); simp [go_sem, *] at kx_w1_0_0)
        clear hW hp
        refine ⟨rfl, ?_⟩
        go_big_quiet_op
        apply Exists.intro
        refine ⟨fun x => ?_, ?_⟩
        · (first | (go_at_call 96; exact draw_of_same _ (times_five _ _ _ _ _ _ _ _ hn hn2 _ %K)) | (go_at_call 95; (with_reducible exact draw_of _ ((T5a _ _ _ _ (kx_w1_0_0 x) (kx_w_2_0 x) (kx_w_1_0 x) (by have := x.lies.size; omega) (by have := x.lies.size; omega) (by have := x.lies.size; omega)).out))) | (go_at_call 95; (with_reducible exact draw_of _ ((T5b _ _ _ _ (kx_w1_0_0 x) (kx_w_2_0 x) (kx_w_1_0 x) (by have := x.lies.size; omega) (by have := x.lies.size; omega) (by have := x.lies.size; omega)).out))))
        exact rfl
      · exact locS_const _
      try simp only [Act.put, List.setIfInBounds_toArray, List.set_cons_succ, List.set_cons_zero, Nat.reduceAdd]
      apply wpS_quiet
      · intro γ W hW hp
        refine ⟨rfl, ?_⟩
        go_big_quiet_op
        first | exact rfl
      · exact locS_const _
      try simp only [Act.put, List.setIfInBounds_toArray, List.set_cons_succ, List.set_cons_zero, Nat.reduceAdd]
      apply wpS_end
      intro γ w2 hb2 hG2 hA2
      obtain ⟨g2_7, e2_7, l2_7, k2_7⟩ := hG2 _ (List.mem_append_left _ (List.mem_append_left _ (List.mem_append_left _ (List.mem_append_right _ (List.mem_singleton.2 rfl)))))
      dsimp only at e2_7 l2_7 k2_7
      obtain ⟨g2_15, e2_15, l2_15, k2_15⟩ := hG2 _ (List.mem_append_left _ (List.mem_append_left _ (List.mem_append_right _ (List.mem_singleton.2 rfl))))
      dsimp only at e2_15 l2_15 k2_15
      obtain ⟨g2_26, e2_26, l2_26, k2_26⟩ := hG2 _ (List.mem_append_left _ (List.mem_append_right _ (List.mem_singleton.2 rfl)))
      dsimp only at e2_26 l2_26 k2_26
      obtain ⟨g2_34, e2_34, l2_34, k2_34⟩ := hG2 _ (List.mem_append_right _ (List.mem_singleton.2 rfl))
      dsimp only at e2_34 l2_34 k2_34
      clear hG2 hA2
      try simp only [e2_7, e2_15, e2_26, e2_34]
      clear e2_7
      clear e2_15
      clear e2_26
      clear e2_34
      simp only [List.drop_succ_cons, List.drop_zero]
      have hz2 := hb2.size
      (try simp only [World.size_alloc, World.size_setCell, World.size_drew, World.size_drewN'] at hz2)
      (try (have kq := cellAt hb2 (w.heap.size) (by go_size); have k2_w_0_0 := kq 0; have k2_w_0_1 := kq 1; have k2_w_0_2 := kq 2; clear kq; have f2_w_0 := frozAt hb2 (w.heap.size) (by go_size); simp [go_sem, *] at k2_w_0_0 k2_w_0_1 k2_w_0_2 f2_w_0))
      (try have l2_w_0 : w.heap.size < w2.heap.size := by omega)
      (try (have kq := cellAt hb2 (w.heap.size + 1) (by go_size); have k2_w_1_0 := kq 0; clear kq; have f2_w_1 := frozAt hb2 (w.heap.size + 1) (by go_size); simp [go_sem, *] at k2_w_1_0 f2_w_1))
      (try have l2_w_1 : w.heap.size + 1 < w2.heap.size := by omega)
      (try (have kq := cellAt hb2 (w.heap.size + 1 + 1) (by go_size); have k2_w_2_0 := kq 0; clear kq; have f2_w_2 := frozAt hb2 (w.heap.size + 1 + 1) (by go_size); simp [go_sem, *] at k2_w_2_0 f2_w_2))
      (try have l2_w_2 : w.heap.size + 1 + 1 < w2.heap.size := by omega)
      (try (have kq := cellAt hb2 (w1.heap.size) (by go_size); have k2_w1_0_0 := kq 0; clear kq; have f2_w1_0 := frozAt hb2 (w1.heap.size) (by go_size); simp [go_sem, *] at k2_w1_0_0 f2_w1_0))
      (try have l2_w1_0 : w1.heap.size < w2.heap.size := by omega)
      (try clear k1_w_0_0 k1_w_0_1 k1_w_0_2 f1_w_0)
      (try clear l1_w_0)
      (try clear k1_w_1_0 f1_w_1)
      (try clear l1_w_1)
      (try clear k1_w_2_0 f1_w_2)
      (try clear l1_w_2)
      go_wp2_with (first | (have _t := tok1; go_at_call 94; (with_reducible refine ((T1 _).out).mono ?_); rintro e w1 ⟨rfl, hb1⟩; clear tok1 _t; have hz1 := hb1.size; (try simp only [World.size_alloc, World.size_setCell, World.size_drew, World.size_drewN'] at hz1); (try (have kq := cellAt hb1 (w.heap.size) (by go_size); have k1_w_0_0 := kq 0; have k1_w_0_1 := kq 1; have k1_w_0_2 := kq 2; clear kq; have f1_w_0 := frozAt hb1 (w.heap.size) (by go_size); simp [go_sem, *] at k1_w_0_0 k1_w_0_1 k1_w_0_2 f1_w_0)); (try have l1_w_0 : w.heap.size < w1.heap.size := by omega); (try (have kq := cellAt hb1 (w.heap.size + 1) (by go_size); have k1_w_1_0 := kq 0; clear kq; have f1_w_1 := frozAt hb1 (w.heap.size + 1) (by go_size); simp [go_sem, *] at k1_w_1_0 f1_w_1)); (try have l1_w_1 : w.heap.size + 1 < w1.heap.size := by omega); (try (have kq := cellAt hb1 (w.heap.size + 1 + 1) (by go_size); have k1_w_2_0 := kq 0; clear kq; have f1_w_2 := frozAt hb1 (w.heap.size + 1 + 1) (by go_size); simp [go_sem, *] at k1_w_2_0 f1_w_2)); (try have l1_w_2 : w.heap.size + 1 + 1 < w1.heap.size := by omega)) | (go_at_call 62; (with_reducible refine ((T0 _).out).mono ?_); rintro e w' ⟨rfl, rfl⟩) | (have _t := tok3; go_at_call 97; (with_reducible refine ((T2 _).out).mono ?_); rintro e w3 ⟨rfl, hb3⟩; clear tok3 _t; have hz3 := hb3.size; (try simp only [World.size_alloc, World.size_setCell, World.size_drew, World.size_drewN'] at hz3); (try (have kq := cellAt hb3 (w.heap.size) (by go_size); have k3_w_0_0 := kq 0; have k3_w_0_1 := kq 1; have k3_w_0_2 := kq 2; clear kq; have f3_w_0 := frozAt hb3 (w.heap.size) (by go_size); simp [go_sem, *] at k3_w_0_0 k3_w_0_1 k3_w_0_2 f3_w_0)); (try have l3_w_0 : w.heap.size < w3.heap.size := by omega); (try (have kq := cellAt hb3 (w.heap.size + 1) (by go_size); have k3_w_1_0 := kq 0; clear kq; have f3_w_1 := frozAt hb3 (w.heap.size + 1) (by go_size); simp [go_sem, *] at k3_w_1_0 f3_w_1)); (try have l3_w_1 : w.heap.size + 1 < w3.heap.size := by omega); (try (have kq := cellAt hb3 (w.heap.size + 1 + 1) (by go_size); have k3_w_2_0 := kq 0; clear kq; have f3_w_2 := frozAt hb3 (w.heap.size + 1 + 1) (by go_size); simp [go_sem, *] at k3_w_2_0 f3_w_2)); (try have l3_w_2 : w.heap.size + 1 + 1 < w3.heap.size := by omega); (try (have kq := cellAt hb3 (w1.heap.size) (by go_size); have k3_w1_0_0 := kq 0; clear kq; have f3_w1_0 := frozAt hb3 (w1.heap.size) (by go_size); simp [go_sem, *] at k3_w1_0_0 f3_w1_0)); (try have l3_w1_0 : w1.heap.size < w3.heap.size := by omega); (try clear k1_w_0_0 k1_w_0_1 k1_w_0_2 f1_w_0); (try clear l1_w_0); (try clear k1_w_1_0 f1_w_1); (try clear l1_w_1); (try clear k1_w_2_0 f1_w_2); (try clear l1_w_2); (try clear k2_w_0_0 k2_w_0_1 k2_w_0_2 f2_w_0); (try clear l2_w_0); (try clear k2_w_1_0 f2_w_1); (try clear l2_w_1); (try clear k2_w_2_0 f2_w_2); (try clear l2_w_2); (try clear k2_w1_0_0 f2_w1_0); (try clear l2_w1_0)) | (go_at_call 63; (with_reducible refine ((T6 _).out).mono ?_); rintro e w' ⟨rfl, rfl⟩))
      all_goals
        go_ret
        refine ⟨ret_bool ?_, ?_⟩
        · rw [HL.out, HW.out, Bool.eq_iff_iff]
          simp only [decide_eq_true_eq]
          omega
        repeat' first | (with_reducible first | apply zRf | assumption | apply zDn | apply zDr | apply zAl | apply zSt | refine zVi (by assumption) ?_ ?_) | go_size
    · have HW := Lib.hid (W2.out hv)
      have T6 := fun W : World => Lib.hid (valuation_any (vaM D A C m e (p ^ k)) p W hp (by omega) hv (by omega) (by omega))
      have hv' : (vaM D A C m e (p ^ k) != 0) = true := by simp [hv]
      have hvl := vl_lt hp (by omega) hvb.2
      unfold hlf at HW
      clear hv W1 W2
      generalize vl (vaM D A C m e (p ^ k)) p = v at *
      generalize vaM D A C m e (p ^ k) = z at *
      generalize p ^ k = q at *
      by_cases h2 : p = 2
      · subst h2
        rw [if_pos rfl] at HW
        have tok1 : True := trivial
        have tok2 : True := trivial
        have tok3 : True := trivial
        go_enter Tryz.func79, Tryz.ntmps79
        go_wp2_with (first | (have _t := tok1; go_at_call 94; (with_reducible refine ((T1 _).out).mono ?_); rintro e w1 ⟨rfl, hb1⟩; clear tok1 _t; have hz1 := hb1.size; (try simp only [World.size_alloc, World.size_setCell, World.size_drew, World.size_drewN'] at hz1); (try (have kq := cellAt hb1 (w.heap.size) (by go_size); have k1_w_0_0 := kq 0; have k1_w_0_1 := kq 1; have k1_w_0_2 := kq 2; clear kq; have f1_w_0 := frozAt hb1 (w.heap.size) (by go_size); simp [go_sem, *] at k1_w_0_0 k1_w_0_1 k1_w_0_2 f1_w_0)); (try have l1_w_0 : w.heap.size < w1.heap.size := by omega); (try (have kq := cellAt hb1 (w.heap.size + 1) (by go_size); have k1_w_1_0 := kq 0; clear kq; have f1_w_1 := frozAt hb1 (w.heap.size + 1) (by go_size); simp [go_sem, *] at k1_w_1_0 f1_w_1)); (try have l1_w_1 : w.heap.size + 1 < w1.heap.size := by omega); (try (have kq := cellAt hb1 (w.heap.size + 1 + 1) (by go_size); have k1_w_2_0 := kq 0; clear kq; have f1_w_2 := frozAt hb1 (w.heap.size + 1 + 1) (by go_size); simp [go_sem, *] at k1_w_2_0 f1_w_2)); (try have l1_w_2 : w.heap.size + 1 + 1 < w1.heap.size := by omega)) | (go_at_call 62; (with_reducible refine ((T0 _).out).mono ?_); rintro e w' ⟨rfl, rfl⟩) | (have _t := tok3; go_at_call 97; (with_reducible refine ((T2 _).out).mono ?_); rintro e w3 ⟨rfl, hb3⟩; clear tok3 _t; have hz3 := hb3.size; (try simp only [World.size_alloc, World.size_setCell, World.size_drew, World.size_drewN'] at hz3); (try (have kq := cellAt hb3 (w.heap.size) (by go_size); have k3_w_0_0 := kq 0; have k3_w_0_1 := kq 1; have k3_w_0_2 := kq 2; clear kq; have f3_w_0 := frozAt hb3 (w.heap.size) (by go_size); simp [go_sem, *] at k3_w_0_0 k3_w_0_1 k3_w_0_2 f3_w_0)); (try have l3_w_0 : w.heap.size < w3.heap.size := by omega); (try (have kq := cellAt hb3 (w.heap.size + 1) (by go_size); have k3_w_1_0 := kq 0; clear kq; have f3_w_1 := frozAt hb3 (w.heap.size + 1) (by go_size); simp [go_sem, *] at k3_w_1_0 f3_w_1)); (try have l3_w_1 : w.heap.size + 1 < w3.heap.size := by omega); (try (have kq := cellAt hb3 (w.heap.size + 1 + 1) (by go_size); have k3_w_2_0 := kq 0; clear kq; have f3_w_2 := frozAt hb3 (w.heap.size + 1 + 1) (by go_size); simp [go_sem, *] at k3_w_2_0 f3_w_2)); (try have l3_w_2 : w.heap.size + 1 + 1 < w3.heap.size := by omega); (try (have kq := cellAt hb3 (w1.heap.size) (by go_size); have k3_w1_0_0 := kq 0; clear kq; have f3_w1_0 := frozAt hb3 (w1.heap.size) (by go_size); simp [go_sem, *] at k3_w1_0_0 f3_w1_0)); (try have l3_w1_0 : w1.heap.size < w3.heap.size := by omega); (try clear k1_w_0_0 k1_w_0_1 k1_w_0_2 f1_w_0); (try clear l1_w_0); (try clear k1_w_1_0 f1_w_1); (try clear l1_w_1); (try clear k1_w_2_0 f1_w_2); (try clear l1_w_2); (try clear k2_w_0_0 k2_w_0_1 k2_w_0_2 f2_w_0); (try clear l2_w_0); (try clear k2_w_1_0 f2_w_1); (try clear l2_w_1); (try clear k2_w_2_0 f2_w_2); (try clear l2_w_2); (try clear k2_w1_0_0 f2_w1_0); (try clear l2_w1_0)) | (go_at_call 63; (with_reducible refine ((T6 _).out).mono ?_); rintro e w' ⟨rfl, rfl⟩))
        refine wp_open (n := 39) (by kernel_rfl) (by kernel_rfl) (by kernel_rfl) (by kernel_rfl) ?_
        simp only [List.take_succ_cons, List.take_zero]
        apply wpS_quiet
        · intro γ W hW hp
          refine ⟨rfl, ?_⟩
          go_big_quiet_op
          first | exact rfl
        · exact locS_const _
        try simp only [Act.put, List.setIfInBounds_toArray, List.set_cons_succ, List.set_cons_zero, Nat.reduceAdd]
        apply wpS_quiet
        · intro γ W hW hp
          refine ⟨rfl, ?_⟩
          go_big_quiet_op
          first | exact rfl
        · exact locS_const _
        try simp only [Act.put, List.setIfInBounds_toArray, List.set_cons_succ, List.set_cons_zero, Nat.reduceAdd]
        apply wpS_quiet
        · intro γ W hW hp
          refine ⟨rfl, ?_⟩
          go_big_quiet_op
          first | exact rfl
        · exact locS_const _
        try simp only [Act.put, List.setIfInBounds_toArray, List.set_cons_succ, List.set_cons_zero, Nat.reduceAdd]
        apply wpS_quiet
        · intro γ W hW hp
          have hs := hW.size
          (try simp only [World.size_alloc, World.size_setCell, World.size_drew, World.size_drewN'] at hs)
          try (have kx_w_0_0 := fun x : Over W => (cellAt x.lies (w.heap.size) (by omega) 0).trans (cellAt hW (w.heap.size) (by go_size) 0); simp [go_sem, *] at kx_w_0_0)
          try (have kx_w_0_1 := fun x : Over W => (cellAt x.lies (w.heap.size) (by omega) 1).trans (cellAt hW (w.heap.size) (by go_size) 1); simp [go_sem, *] at kx_w_0_1)
          try (have kx_w_0_2 := fun x : Over W => (cellAt x.lies (w.heap.size) (by omega) 2).trans (cellAt hW (w.heap.size) (by go_size) 2); simp [go_sem, *] at kx_w_0_2)
          try (have kx_w_1_0 := fun x : Over W => (cellAt x.lies (w.heap.size + 1) (by omega) 0).trans (cellAt hW (w.heap.size + 1) (by go_size) 0); simp [go_sem, *] at kx_w_1_0)
          try (have kx_w_2_0 := fun x : Over W => (cellAt x.lies (w.heap.size + 1 + 1) (by omega) 0).trans (cellAt hW (w.heap.size + 1 + 1) (by go_size) 0); simp [go_sem, *] at kx_w_2_0)
          try (have kx_w1_0_0 := fun x : Over W => (cellAt x.lies (w1.heap.size) (by omega) 0).trans (cellAt hW (w1.heap.size) (by go_size) 0); simp [go_sem, *] at kx_w1_0_0)
          clear hW hp
          refine ⟨rfl, ?_⟩
          go_big_quiet_op
          first | exact rfl
        · exact locS_const _
        try simp only [Act.put, List.setIfInBounds_toArray, List.set_cons_succ, List.set_cons_zero, Nat.reduceAdd]
        apply wpS_quiet
        · intro γ W hW hp
          refine ⟨rfl, ?_⟩
          go_big_quiet_op
          first | exact rfl
        · exact locS_const _
        try simp only [Act.put, List.setIfInBounds_toArray, List.set_cons_succ, List.set_cons_zero, Nat.reduceAdd]
        apply wpS_quiet
        · intro γ W hW hp
          refine ⟨rfl, ?_⟩
          go_big_quiet_op
          first | exact rfl
        · exact locS_const _
        try simp only [Act.put, List.setIfInBounds_toArray, List.set_cons_succ, List.set_cons_zero, Nat.reduceAdd]
        apply wpS_quiet
        · intro γ W hW hp
          refine ⟨rfl, ?_⟩
          go_big_quiet_op
          first | exact rfl
        · exact locS_const _
        try simp only [Act.put, List.setIfInBounds_toArray, List.set_cons_succ, List.set_cons_zero, Nat.reduceAdd]
        apply wpS_open (newRow _ _ _ 5)
        · intro γ W hW hp
          refine ⟨rfl, ?_⟩
          go_simp
          exact ⟨⟨⟨_, rfl, hW.size, heap_alloc_new _ _⟩, fun e => by cases e⟩, (Below.refl _ _).alloc (Nat.le_refl _) _⟩
        try simp only [Act.put, List.setIfInBounds_toArray, List.set_cons_succ, List.set_cons_zero, Nat.reduceAdd]
        apply wpS_quiet
        · intro γ W hW hp
          obtain ⟨g_7, e_7, l_7, k_7⟩ := hp _ (List.mem_append_right _ (List.mem_singleton.2 rfl)) (by kernel_rfl)
          dsimp only at e_7 l_7 k_7
          refine ⟨rfl, ?_⟩
          have E_7 := Lib.hid e_7
          clear e_7
          go_big_quiet_op
          apply Exists.intro
          refine ⟨fun x => ?_, ?_⟩
          · rw [E_7.out]
            have kk_7 := (x.lies.block _ (blk_lt' k_7)).trans k_7
            (first | (go_at_call 96; exact draw_of_same _ (times_five _ _ _ _ _ _ _ _ hn hn2 _ kk_7)) | (go_at_call 95; (with_reducible exact draw_of _ ((T5a _ _ _ _ (kx_w1_0_0 x) (kx_w_2_0 x) (kx_w_1_0 x) (by have := x.lies.size; omega) (by have := x.lies.size; omega) (by have := x.lies.size; omega)).out))) | (go_at_call 95; (with_reducible exact draw_of _ ((T5b _ _ _ _ (kx_w1_0_0 x) (kx_w_2_0 x) (kx_w_1_0 x) (by have := x.lies.size; omega) (by have := x.lies.size; omega) (by have := x.lies.size; omega)).out))))
          exact rfl
        · intro γ k g hk
          have h_7 : updV γ k g 7 = γ 7 := updV_other γ g (fun e => by subst e; exact absurd hk (by rw [show reachB .any _ 100 8 7 = true from by kernel_rfl]; simp))
          first | rfl | simp only [h_7]
        try simp only [Act.put, List.setIfInBounds_toArray, List.set_cons_succ, List.set_cons_zero, Nat.reduceAdd]
        apply wpS_quiet
        · intro γ W hW hp
          refine ⟨rfl, ?_⟩
          go_big_quiet_op
          first | exact rfl
        · exact locS_const _
        try simp only [Act.put, List.setIfInBounds_toArray, List.set_cons_succ, List.set_cons_zero, Nat.reduceAdd]
        apply wpS_quiet
        · intro γ W hW hp
          refine ⟨rfl, ?_⟩
          go_big_quiet_op
          first | exact rfl
        · exact locS_const _
        try simp only [Act.put, List.setIfInBounds_toArray, List.set_cons_succ, List.set_cons_zero, Nat.reduceAdd]
        apply wpS_quiet
        · intro γ W hW hp
          have hs := hW.size
          (try simp only [World.size_alloc, World.size_setCell, World.size_drew, World.size_drewN'] at hs)
          try (have kx_w_0_0 := fun x : Over W => (cellAt x.lies (w.heap.size) (by omega) 0).trans (cellAt hW (w.heap.size) (by go_size) 0); simp [go_sem, *] at kx_w_0_0)
          try (have kx_w_0_1 := fun x : Over W => (cellAt x.lies (w.heap.size) (by omega) 1).trans (cellAt hW (w.heap.size) (by go_size) 1); simp [go_sem, *] at kx_w_0_1)
          try (have kx_w_0_2 := fun x : Over W => (cellAt x.lies (w.heap.size) (by omega) 2).trans (cellAt hW (w.heap.size) (by go_size) 2); simp [go_sem, *] at kx_w_0_2)
          try (have kx_w_1_0 := fun x : Over W => (cellAt x.lies (w.heap.size + 1) (by omega) 0).trans (cellAt hW (w.heap.size + 1) (by go_size) 0); simp [go_sem, *] at kx_w_1_0)
          try (have kx_w_2_0 := fun x : Over W => (cellAt x.lies (w.heap.size + 1 + 1) (by omega) 0).trans (cellAt hW (w.heap.size + 1 + 1) (by go_size) 0); simp [go_sem, *] at kx_w_2_0)
          try (have kx_w1_0_0 := fun x : Over W => (cellAt x.lies (w1.heap.size) (by omega) 0).trans (cellAt hW (w1.heap.size) (by go_size) 0); simp [go_sem, *] at kx_w1_0_0)
          clear hW hp
          refine ⟨rfl, ?_⟩
          go_big_quiet_op
          first | exact rfl
        · exact locS_const _
        try simp only [Act.put, List.setIfInBounds_toArray, List.set_cons_succ, List.set_cons_zero, Nat.reduceAdd]
        apply wpS_quiet
        · intro γ W hW hp
          refine ⟨rfl, ?_⟩
          go_big_quiet_op
          first | exact rfl
        · exact locS_const _
        try simp only [Act.put, List.setIfInBounds_toArray, List.set_cons_succ, List.set_cons_zero, Nat.reduceAdd]
        apply wpS_quiet
        · intro γ W hW hp
          refine ⟨rfl, ?_⟩
          go_big_quiet_op
          first | exact rfl
        · exact locS_const _
        try simp only [Act.put, List.setIfInBounds_toArray, List.set_cons_succ, List.set_cons_zero, Nat.reduceAdd]
        apply wpS_quiet
        · intro γ W hW hp
          refine ⟨rfl, ?_⟩
          go_big_quiet_op
          first | exact rfl
        · exact locS_const _
        try simp only [Act.put, List.setIfInBounds_toArray, List.set_cons_succ, List.set_cons_zero, Nat.reduceAdd]
        apply wpS_open (newRow _ _ _ 5)
        · intro γ W hW hp
          refine ⟨rfl, ?_⟩
          go_simp
          exact ⟨⟨⟨_, rfl, hW.size, heap_alloc_new _ _⟩, fun e => by cases e⟩, (Below.refl _ _).alloc (Nat.le_refl _) _⟩
        try simp only [Act.put, List.setIfInBounds_toArray, List.set_cons_succ, List.set_cons_zero, Nat.reduceAdd]
        apply wpS_quiet
        · intro γ W hW hp
          obtain ⟨g_15, e_15, l_15, k_15⟩ := hp _ (List.mem_append_right _ (List.mem_singleton.2 rfl)) (by kernel_rfl)
          dsimp only at e_15 l_15 k_15
          refine ⟨rfl, ?_⟩
          have E_15 := Lib.hid e_15
          clear e_15
          go_big_quiet_op
          apply Exists.intro
          refine ⟨fun x => ?_, ?_⟩
          · rw [E_15.out]
            have kk_15 := (x.lies.block _ (blk_lt' k_15)).trans k_15
            (first | (go_at_call 96; exact draw_of_same _ (times_five _ _ _ _ _ _ _ _ hn hn2 _ kk_15)) | (go_at_call 95; (with_reducible exact draw_of _ ((T5a _ _ _ _ (kx_w1_0_0 x) (kx_w_2_0 x) (kx_w_1_0 x) (by have := x.lies.size; omega) (by have := x.lies.size; omega) (by have := x.lies.size; omega)).out))) | (go_at_call 95; (with_reducible exact draw_of _ ((T5b _ _ _ _ (kx_w1_0_0 x) (kx_w_2_0 x) (kx_w_1_0 x) (by have := x.lies.size; omega) (by have := x.lies.size; omega) (by have := x.lies.size; omega)).out))))
          exact rfl
        · intro γ k g hk
          have h_15 : updV γ k g 15 = γ 15 := updV_other γ g (fun e => by subst e; exact absurd hk (by rw [show reachB .any _ 100 16 15 = true from by kernel_rfl]; simp))
          first | rfl | simp only [h_15]
        try simp only [Act.put, List.setIfInBounds_toArray, List.set_cons_succ, List.set_cons_zero, Nat.reduceAdd]
        apply wpS_quiet
        · intro γ W hW hp
          refine ⟨rfl, ?_⟩
          go_big_quiet_op
          first | exact rfl
        · exact locS_const _
        try simp only [Act.put, List.setIfInBounds_toArray, List.set_cons_succ, List.set_cons_zero, Nat.reduceAdd]
        apply wpS_quiet
        · intro γ W hW hp
          have hs := hW.size
          (try simp only [World.size_alloc, World.size_setCell, World.size_drew, World.size_drewN'] at hs)
          try (have kx_w_0_0 := fun x : Over W => (cellAt x.lies (w.heap.size) (by omega) 0).trans (cellAt hW (w.heap.size) (by go_size) 0); simp [go_sem, *] at kx_w_0_0)
          try (have kx_w_0_1 := fun x : Over W => (cellAt x.lies (w.heap.size) (by omega) 1).trans (cellAt hW (w.heap.size) (by go_size) 1); simp [go_sem, *] at kx_w_0_1)
          try (have kx_w_0_2 := fun x : Over W => (cellAt x.lies (w.heap.size) (by omega) 2).trans (cellAt hW (w.heap.size) (by go_size) 2); simp [go_sem, *] at kx_w_0_2)
          try (have kx_w_1_0 := fun x : Over W => (cellAt x.lies (w.heap.size + 1) (by omega) 0).trans (cellAt hW (w.heap.size + 1) (by go_size) 0); simp [go_sem, *] at kx_w_1_0)
          try (have kx_w_2_0 := fun x : Over W => (cellAt x.lies (w.heap.size + 1 + 1) (by omega) 0).trans (cellAt hW (w.heap.size + 1 + 1) (by go_size) 0); simp [go_sem, *] at kx_w_2_0)
          try (have kx_w1_0_0 := fun x : Over W => (cellAt x.lies (w1.heap.size) (by omega) 0).trans (cellAt hW (w1.heap.size) (by go_size) 0); simp [go_sem, *] at kx_w1_0_0)
          clear hW hp
          refine ⟨rfl, ?_⟩
          go_big_quiet_op
          apply Exists.intro
          refine ⟨fun x => ?_, ?_⟩
          · (first | (go_at_call 96; exact draw_of_same _ (times_five _ _ _ _ _ _ _ _ hn hn2 _ %K)) | (go_at_call 95; (with_reducible exact draw_of _ ((T5a _ _ _ _ (kx_w1_0_0 x) (kx_w_2_0 x) (kx_w_1_0 x) (by have := x.lies.size; omega) (by have := x.lies.size; omega) (by have := x.lies.size; omega)).out))) | (go_at_call 95; (with_reducible exact draw_of _ ((T5b _ _ _ _ (kx_w1_0_0 x) (kx_w_2_0 x) (kx_w_1_0 x) (by have := x.lies.size; omega) (by have := x.lies.size; omega) (by have := x.lies.size; omega)).out))))
          exact rfl
        · exact locS_const _
        try simp only [Act.put, List.setIfInBounds_toArray, List.set_cons_succ, List.set_cons_zero, Nat.reduceAdd]
        apply wpS_quiet
        · intro γ W hW hp
          refine ⟨rfl, ?_⟩
          go_big_quiet_op
          first | exact rfl
        · exact locS_const _
        try simp only [Act.put, List.setIfInBounds_toArray, List.set_cons_succ, List.set_cons_zero, Nat.reduceAdd]
        apply wpS_quiet
        · intro γ W hW hp
          refine ⟨rfl, ?_⟩
          go_big_quiet_op
          first | exact rfl
        · exact locS_const _
        try simp only [Act.put, List.setIfInBounds_toArray, List.set_cons_succ, List.set_cons_zero, Nat.reduceAdd]
        apply wpS_quiet
        · intro γ W hW hp
          refine ⟨rfl, ?_⟩
          go_big_quiet_op
          first | exact rfl
        · exact locS_const _
        try simp only [Act.put, List.setIfInBounds_toArray, List.set_cons_succ, List.set_cons_zero, Nat.reduceAdd]
        apply wpS_quiet
        · intro γ W hW hp
          have hs := hW.size
          (try simp only [World.size_alloc, World.size_setCell, World.size_drew, World.size_drewN'] at hs)
          try (have kx_w_0_0 := fun x : Over W => (cellAt x.lies (w.heap.size) (by omega) 0).trans (cellAt hW (w.heap.size) (by go_size) 0); simp [go_sem, *] at kx_w_0_0)
          try (have kx_w_0_1 := fun x : Over W => (cellAt x.lies (w.heap.size) (by omega) 1).trans (cellAt hW (w.heap.size) (by go_size) 1); simp [go_sem, *] at kx_w_0_1)
          try (have kx_w_0_2 := fun x : Over W => (cellAt x.lies (w.heap.size) (by omega) 2).trans (cellAt hW (w.heap.size) (by go_size) 2); simp [go_sem, *] at kx_w_0_2)
          try (have kx_w_1_0 := fun x : Over W => (cellAt x.lies (w.heap.size + 1) (by omega) 0).trans (cellAt hW (w.heap.size + 1) (by go_size) 0); simp [go_sem, *] at kx_w_1_0)
          try (have kx_w_2_0 := fun x : Over W => (cellAt x.lies (w.heap.size + 1 + 1) (by omega) 0).trans (cellAt hW (w.heap.size + 1 + 1) (by go_size) 0); simp [go_sem, *] at kx_w_2_0)
          try (have kx_w1_0_0 := fun x : Over W => (cellAt x.lies (w1.heap.size) (by omega) 0).trans (cellAt hW (w1.heap.size) (by go_size) 0); simp [go_sem, *] at kx_w1_0_0)
          clear hW hp
          refine ⟨rfl, ?_⟩
          go_big_quiet_op
          first | exact rfl
        · exact locS_const _
        try simp only [Act.put, List.setIfInBounds_toArray, List.set_cons_succ, List.set_cons_zero, Nat.reduceAdd]
        apply wpS_quiet
        · intro γ W hW hp
          refine ⟨rfl, ?_⟩
          go_big_quiet_op
          first | exact rfl
        · exact locS_const _
        try simp only [Act.put, List.setIfInBounds_toArray, List.set_cons_succ, List.set_cons_zero, Nat.reduceAdd]
        apply wpS_quiet
        · intro γ W hW hp
          refine ⟨rfl, ?_⟩
          go_big_quiet_op
          first | exact rfl
        · exact locS_const _
        try simp only [Act.put, List.setIfInBounds_toArray, List.set_cons_succ, List.set_cons_zero, Nat.reduceAdd]
        apply wpS_quiet
        · intro γ W hW hp
          refine ⟨rfl, ?_⟩
          go_big_quiet_op
          first | exact rfl
        · exact locS_const _
        try simp only [Act.put, List.setIfInBounds_toArray, List.set_cons_succ, List.set_cons_zero, Nat.reduceAdd]
        apply wpS_open (newRow _ _ _ 5)
        · intro γ W hW hp
          refine ⟨rfl, ?_⟩
          go_simp
          exact ⟨⟨⟨_, rfl, hW.size, heap_alloc_new _ _⟩, fun e => by cases e⟩, (Below.refl _ _).alloc (Nat.le_refl _) _⟩
        try simp only [Act.put, List.setIfInBounds_toArray, List.set_cons_succ, List.set_cons_zero, Nat.reduceAdd]
        apply wpS_quiet
        · intro γ W hW hp
          obtain ⟨g_26, e_26, l_26, k_26⟩ := hp _ (List.mem_append_right _ (List.mem_singleton.2 rfl)) (by kernel_rfl)
          dsimp only at e_26 l_26 k_26
          refine ⟨rfl, ?_⟩
          have E_26 := Lib.hid e_26
          clear e_26
          go_big_quiet_op
          apply Exists.intro
          refine ⟨fun x => ?_, ?_⟩
          · rw [E_26.out]
            have kk_26 := (x.lies.block _ (blk_lt' k_26)).trans k_26
            (first | (go_at_call 96; exact draw_of_same _ (times_five _ _ _ _ _ _ _ _ hn hn2 _ kk_26)) | (go_at_call 95; (with_reducible exact draw_of _ ((T5a _ _ _ _ (kx_w1_0_0 x) (kx_w_2_0 x) (kx_w_1_0 x) (by have := x.lies.size; omega) (by have := x.lies.size; omega) (by have := x.lies.size; omega)).out))) | (go_at_call 95; (with_reducible exact draw_of _ ((T5b _ _ _ _ (kx_w1_0_0 x) (kx_w_2_0 x) (kx_w_1_0 x) (by have := x.lies.size; omega) (by have := x.lies.size; omega) (by have := x.lies.size; omega)).out))))
          exact rfl
        · intro γ k g hk
          have h_26 : updV γ k g 26 = γ 26 := updV_other γ g (fun e => by subst e; exact absurd hk (by rw [show reachB .any _ 100 27 26 = true from by kernel_rfl]; simp))
          first | rfl | simp only [h_26]
        try simp only [Act.put, List.setIfInBounds_toArray, List.set_cons_succ, List.set_cons_zero, Nat.reduceAdd]
        apply wpS_quiet
        · intro γ W hW hp
          refine ⟨rfl, ?_⟩
          go_big_quiet_op
          first | exact rfl
        · exact locS_const _
        try simp only [Act.put, List.setIfInBounds_toArray, List.set_cons_succ, List.set_cons_zero, Nat.reduceAdd]
        apply wpS_quiet
        · intro γ W hW hp
          refine ⟨rfl, ?_⟩
          go_big_quiet_op
          first | exact rfl
        · exact locS_const _
        try simp only [Act.put, List.setIfInBounds_toArray, List.set_cons_succ, List.set_cons_zero, Nat.reduceAdd]
        apply wpS_quiet
        · intro γ W hW hp
          have hs := hW.size
          (try simp only [World.size_alloc, World.size_setCell, World.size_drew, World.size_drewN'] at hs)
          try (have kx_w_0_0 := fun x : Over W => (cellAt x.lies (w.heap.size) (by omega) 0).trans (cellAt hW (w.heap.size) (by go_size) 0); simp [go_sem, *] at kx_w_0_0)
          try (have kx_w_0_1 := fun x : Over W => (cellAt x.lies (w.heap.size) (by omega) 1).trans (cellAt hW (w.heap.size) (by go_size) 1); simp [go_sem, *] at kx_w_0_1)
          try (have kx_w_0_2 := fun x : Over W => (cellAt x.lies (w.heap.size) (by omega) 2).trans (cellAt hW (w.heap.size) (by go_size) 2); simp [go_sem, *] at kx_w_0_2)
          try (have kx_w_1_0 := fun x : Over W => (cellAt x.lies (w.heap.size + 1) (by omega) 0).trans (cellAt hW (w.heap.size + 1) (by go_size) 0); simp [go_sem, *] at kx_w_1_0)
          try (have kx_w_2_0 := fun x : Over W => (cellAt x.lies (w.heap.size + 1 + 1) (by omega) 0).trans (cellAt hW (w.heap.size + 1 + 1) (by go_size) 0); simp [go_sem, *] at kx_w_2_0)
          try (have kx_w1_0_0 := fun x : Over W => (cellAt x.lies (w1.heap.size) (by omega) 0).trans (cellAt hW (w1.heap.size) (by go_size) 0); simp [go_sem, *] at kx_w1_0_0)
          clear hW hp
          refine ⟨rfl, ?_⟩
          go_big_quiet_op
          first | exact rfl
        · exact locS_const _
        try simp only [Act.put, List.setIfInBounds_toArray, List.set_cons_succ, List.set_cons_zero, Nat.reduceAdd]
        apply wpS_quiet
        · intro γ W hW hp
          refine ⟨rfl, ?_⟩
          go_big_quiet_op
          first | exact rfl
        · exact locS_const _
        try simp only [Act.put, List.setIfInBounds_toArray, List.set_cons_succ, List.set_cons_zero, Nat.reduceAdd]
        apply wpS_quiet
        · intro γ W hW hp
          refine ⟨rfl, ?_⟩
          go_big_quiet_op
          first | exact rfl
        · exact locS_const _
        try simp only [Act.put, List.setIfInBounds_toArray, List.set_cons_succ, List.set_cons_zero, Nat.reduceAdd]
        apply wpS_quiet
        · intro γ W hW hp
          refine ⟨rfl, ?_⟩
          go_big_quiet_op
          first | exact rfl
        · exact locS_const _
        try simp only [Act.put, List.setIfInBounds_toArray, List.set_cons_succ, List.set_cons_zero, Nat.reduceAdd]
        apply wpS_open (newRow _ _ _ 5)
        · intro γ W hW hp
          refine ⟨rfl, ?_⟩
          go_simp
          exact ⟨⟨⟨_, rfl, hW.size, heap_alloc_new _ _⟩, fun e => by cases e⟩, (Below.refl _ _).alloc (Nat.le_refl _) _⟩
        try simp only [Act.put, List.setIfInBounds_toArray, List.set_cons_succ, List.set_cons_zero, Nat.reduceAdd]
        apply wpS_quiet
        · intro γ W hW hp
          obtain ⟨g_34, e_34, l_34, k_34⟩ := hp _ (List.mem_append_right _ (List.mem_singleton.2 rfl)) (by kernel_rfl)
          dsimp only at e_34 l_34 k_34
          refine ⟨rfl, ?_⟩
          have E_34 := Lib.hid e_34
          clear e_34
          go_big_quiet_op
          apply Exists.intro
          refine ⟨fun x => ?_, ?_⟩
          · rw [E_34.out]
            have kk_34 := (x.lies.block _ (blk_lt' k_34)).trans k_34
            (first | (go_at_call 96; exact draw_of_same _ (times_five _ _ _ _ _ _ _ _ hn hn2 _ kk_34)) | (go_at_call 95; (with_reducible exact draw_of _ ((T5a _ _ _ _ (kx_w1_0_0 x) (kx_w_2_0 x) (kx_w_1_0 x) (by have := x.lies.size; omega) (by have := x.lies.size; omega) (by have := x.lies.size; omega)).out))) | (go_at_call 95; (with_reducible exact draw_of _ ((T5b _ _ _ _ (kx_w1_0_0 x) (kx_w_2_0 x) (kx_w_1_0 x) (by have := x.lies.size; omega) (by have := x.lies.size; omega) (by have := x.lies.size; omega)).out))))
          exact rfl
        · intro γ k g hk
          have h_34 : updV γ k g 34 = γ 34 := updV_other γ g (fun e => by subst e; exact absurd hk (by rw [show reachB .any _ 100 35 34 = true from by kernel_rfl]; simp))
          first | rfl | simp only [h_34]
        try simp only [Act.put, List.setIfInBounds_toArray, List.set_cons_succ, List.set_cons_zero, Nat.reduceAdd]
        apply wpS_quiet
        · intro γ W hW hp
          refine ⟨rfl, ?_⟩
          go_big_quiet_op
          first | exact rfl
        · exact locS_const _
        try simp only [Act.put, List.setIfInBounds_toArray, List.set_cons_succ, List.set_cons_zero, Nat.reduceAdd]
        apply wpS_quiet
        · intro γ W hW hp
          have hs := hW.size
          (try simp only [World.size_alloc, World.size_setCell, World.size_drew, World.size_drewN'] at hs)
          try (have kx_w_0_0 := fun x : Over W => (cellAt x.lies (w.heap.size) (by omega) 0).trans (cellAt hW (w.heap.size) (by go_size) 0); simp [go_sem, *] at kx_w_0_0)
          try (have kx_w_0_1 := fun x : Over W => (cellAt x.lies (w.heap.size) (by omega) 1).trans (cellAt hW (w.heap.size) (by go_size) 1); simp [go_sem, *] at kx_w_0_1)
          try (have kx_w_0_2 := fun x : Over W => (cellAt x.lies (w.heap.size) (by omega) 2).trans (cellAt hW (w.heap.size) (by go_size) 2); simp [go_sem, *] at kx_w_0_2)
          try (have kx_w_1_0 := fun x : Over W => (cellAt x.lies (w.heap.size + 1) (by omega) 0).trans (cellAt hW (w.heap.size + 1) (by go_size) 0); simp [go_sem, *] at kx_w_1_0)
          try (have kx_w_2_0 := fun x : Over W => (cellAt x.lies (w.heap.size + 1 + 1) (by omega) 0).trans (cellAt hW (w.heap.size + 1 + 1) (by go_size) 0); simp [go_sem, *] at kx_w_2_0)
          try (have kx_w1_0_0 := fun x : Over W => (cellAt x.lies (w1.heap.size) (by omega) 0).trans (cellAt hW (w1.heap.size) (by go_size) 0); simp [go_sem, *] at kx_w1_0_0)
          clear hW hp
          refine ⟨rfl, ?_⟩
          go_big_quiet_op
          apply Exists.intro
          refine ⟨fun x => ?_, ?_⟩
          · (first | (go_at_call 96; exact draw_of_same _ (times_five _ _ _ _ _ _ _ _ hn hn2 _ %K)) | (go_at_call 95; (with_reducible exact draw_of _ ((T5a _ _ _ _ (kx_w1_0_0 x) (kx_w_2_0 x) (kx_w_1_0 x) (by have := x.lies.size; omega) (by have := x.lies.size; omega) (by have := x.lies.size; omega)).out))) | (go_at_call 95; (with_reducible exact draw_of _ ((T5b _ _ _ _ (kx_w1_0_0 x) (kx_w_2_0 x) (kx_w_1_0 x) (by have := x.lies.size; omega) (by have := x.lies.size; omega) (by have := x.lies.size; omega)).out))))
          exact rfl
        · exact locS_const _
        try simp only [Act.put, List.setIfInBounds_toArray, List.set_cons_succ, List.set_cons_zero, Nat.reduceAdd]
        apply wpS_quiet
        · intro γ W hW hp
          refine ⟨rfl, ?_⟩
          go_big_quiet_op
          first | exact rfl
        · exact locS_const _
        try simp only [Act.put, List.setIfInBounds_toArray, List.set_cons_succ, List.set_cons_zero, Nat.reduceAdd]
        apply wpS_end
        intro γ w2 hb2 hG2 hA2
        obtain ⟨g2_7, e2_7, l2_7, k2_7⟩ := hG2 _ (List.mem_append_left _ (List.mem_append_left _ (List.mem_append_left _ (List.mem_append_right _ (List.mem_singleton.2 rfl)))))
        dsimp only at e2_7 l2_7 k2_7
        obtain ⟨g2_15, e2_15, l2_15, k2_15⟩ := hG2 _ (List.mem_append_left _ (List.mem_append_left _ (List.mem_append_right _ (List.mem_singleton.2 rfl))))
        dsimp only at e2_15 l2_15 k2_15
        obtain ⟨g2_26, e2_26, l2_26, k2_26⟩ := hG2 _ (List.mem_append_left _ (List.mem_append_right _ (List.mem_singleton.2 rfl)))
        dsimp only at e2_26 l2_26 k2_26
        obtain ⟨g2_34, e2_34, l2_34, k2_34⟩ := hG2 _ (List.mem_append_right _ (List.mem_singleton.2 rfl))
        dsimp only at e2_34 l2_34 k2_34
        clear hG2 hA2
        try simp only [e2_7, e2_15, e2_26, e2_34]
        clear e2_7
        clear e2_15
        clear e2_26
        clear e2_34
        simp only [List.drop_succ_cons, List.drop_zero]
        have hz2 := hb2.size
        (try simp only [World.size_alloc, World.size_setCell, World.size_drew, World.size_drewN'] at hz2)
        (try (have kq := cellAt hb2 (w.heap.size) (by go_size); have k2_w_0_0 := kq 0; have k2_w_0_1 := kq 1; have k2_w_0_2 := kq 2; clear kq; have f2_w_0 := frozAt hb2 (w.heap.size) (by go_size); simp [go_sem, *] at k2_w_0_0 k2_w_0_1 k2_w_0_2 f2_w_0))
        (try have l2_w_0 : w.heap.size < w2.heap.size := by omega)
        (try (have kq := cellAt hb2 (w.heap.size + 1) (by go_size); have k2_w_1_0 := kq 0; clear kq; have f2_w_1 := frozAt hb2 (w.heap.size + 1) (by go_size); simp [go_sem, *] at k2_w_1_0 f2_w_1))
        (try have l2_w_1 : w.heap.size + 1 < w2.heap.size := by omega)
        (try (have kq := cellAt hb2 (w.heap.size + 1 + 1) (by go_size); have k2_w_2_0 := kq 0; clear kq; have f2_w_2 := frozAt hb2 (w.heap.size + 1 + 1) (by go_size); simp [go_sem, *] at k2_w_2_0 f2_w_2))
        (try have l2_w_2 : w.heap.size + 1 + 1 < w2.heap.size := by omega)
        (try (have kq := cellAt hb2 (w1.heap.size) (by go_size); have k2_w1_0_0 := kq 0; clear kq; have f2_w1_0 := frozAt hb2 (w1.heap.size) (by go_size); simp [go_sem, *] at k2_w1_0_0 f2_w1_0))
        (try have l2_w1_0 : w1.heap.size < w2.heap.size := by omega)
        (try clear k1_w_0_0 k1_w_0_1 k1_w_0_2 f1_w_0)
        (try clear l1_w_0)
        (try clear k1_w_1_0 f1_w_1)
        (try clear l1_w_1)
        (try clear k1_w_2_0 f1_w_2)
        (try clear l1_w_2)
        go_wp2_with (first | (have _t := tok1; go_at_call 94; (with_reducible refine ((T1 _).out).mono ?_); rintro e w1 ⟨rfl, hb1⟩; clear tok1 _t; have hz1 := hb1.size; (try simp only [World.size_alloc, World.size_setCell, World.size_drew, World.size_drewN'] at hz1); (try (have kq := cellAt hb1 (w.heap.size) (by go_size); have k1_w_0_0 := kq 0; have k1_w_0_1 := kq 1; have k1_w_0_2 := kq 2; clear kq; have f1_w_0 := frozAt hb1 (w.heap.size) (by go_size); simp [go_sem, *] at k1_w_0_0 k1_w_0_1 k1_w_0_2 f1_w_0)); (try have l1_w_0 : w.heap.size < w1.heap.size := by omega); (try (have kq := cellAt hb1 (w.heap.size + 1) (by go_size); have k1_w_1_0 := kq 0; clear kq; have f1_w_1 := frozAt hb1 (w.heap.size + 1) (by go_size); simp [go_sem, *] at k1_w_1_0 f1_w_1)); (try have l1_w_1 : w.heap.size + 1 < w1.heap.size := by omega); (try (have kq := cellAt hb1 (w.heap.size + 1 + 1) (by go_size); have k1_w_2_0 := kq 0; clear kq; have f1_w_2 := frozAt hb1 (w.heap.size + 1 + 1) (by go_size); simp [go_sem, *] at k1_w_2_0 f1_w_2)); (try have l1_w_2 : w.heap.size + 1 + 1 < w1.heap.size := by omega)) | (go_at_call 62; (with_reducible refine ((T0 _).out).mono ?_); rintro e w' ⟨rfl, rfl⟩) | (have _t := tok3; go_at_call 97; (with_reducible refine ((T2 _).out).mono ?_); rintro e w3 ⟨rfl, hb3⟩; clear tok3 _t; have hz3 := hb3.size; (try simp only [World.size_alloc, World.size_setCell, World.size_drew, World.size_drewN'] at hz3); (try (have kq := cellAt hb3 (w.heap.size) (by go_size); have k3_w_0_0 := kq 0; have k3_w_0_1 := kq 1; have k3_w_0_2 := kq 2; clear kq; have f3_w_0 := frozAt hb3 (w.heap.size) (by go_size); simp [go_sem, *] at k3_w_0_0 k3_w_0_1 k3_w_0_2 f3_w_0)); (try have l3_w_0 : w.heap.size < w3.heap.size := by omega); (try (have kq := cellAt hb3 (w.heap.size + 1) (by go_size); have k3_w_1_0 := kq 0; clear kq; have f3_w_1 := frozAt hb3 (w.heap.size + 1) (by go_size); simp [go_sem, *] at k3_w_1_0 f3_w_1)); (try have l3_w_1 : w.heap.size + 1 < w3.heap.size := by omega); (try (have kq := cellAt hb3 (w.heap.size + 1 + 1) (by go_size); have k3_w_2_0 := kq 0; clear kq; have f3_w_2 := frozAt hb3 (w.heap.size + 1 + 1) (by go_size); simp [go_sem, *] at k3_w_2_0 f3_w_2)); (try have l3_w_2 : w.heap.size + 1 + 1 < w3.heap.size := by omega); (try (have kq := cellAt hb3 (w1.heap.size) (by go_size); have k3_w1_0_0 := kq 0; clear kq; have f3_w1_0 := frozAt hb3 (w1.heap.size) (by go_size); simp [go_sem, *] at k3_w1_0_0 f3_w1_0)); (try have l3_w1_0 : w1.heap.size < w3.heap.size := by omega); (try clear k1_w_0_0 k1_w_0_1 k1_w_0_2 f1_w_0); (try clear l1_w_0); (try clear k1_w_1_0 f1_w_1); (try clear l1_w_1); (try clear k1_w_2_0 f1_w_2); (try clear l1_w_2); (try clear k2_w_0_0 k2_w_0_1 k2_w_0_2 f2_w_0); (try clear l2_w_0); (try clear k2_w_1_0 f2_w_1); (try clear l2_w_1); (try clear k2_w_2_0 f2_w_2); (try clear l2_w_2); (try clear k2_w1_0_0 f2_w1_0); (try clear l2_w1_0)) | (go_at_call 63; (with_reducible refine ((T6 _).out).mono ?_); rintro e w' ⟨rfl, rfl⟩))
        all_goals
          go_ret
          refine ⟨ret_bool ?_, ?_⟩
          · rw [HL.out, HW.out, Bool.eq_iff_iff]
            simp only [decide_eq_true_eq]
            omega
          repeat' first | (with_reducible first | apply zRf | assumption | apply zDn | apply zDr | apply zAl | apply zSt | refine zVi (by assumption) ?_ ?_) | go_size
      · have h2' : (p == 2) = false := by simp [h2]
        rw [if_neg h2] at HW
        clear h2
        have tok1 : True := trivial
        have tok2 : True := trivial
        have tok3 : True := trivial
        go_enter Tryz.func79, Tryz.ntmps79
        go_wp2_with (first | (have _t := tok1; go_at_call 94; (with_reducible refine ((T1 _).out).mono ?_); rintro e w1 ⟨rfl, hb1⟩; clear tok1 _t; have hz1 := hb1.size; (try simp only [World.size_alloc, World.size_setCell, World.size_drew, World.size_drewN'] at hz1); (try (have kq := cellAt hb1 (w.heap.size) (by go_size); have k1_w_0_0 := kq 0; have k1_w_0_1 := kq 1; have k1_w_0_2 := kq 2; clear kq; have f1_w_0 := frozAt hb1 (w.heap.size) (by go_size); simp [go_sem, *] at k1_w_0_0 k1_w_0_1 k1_w_0_2 f1_w_0)); (try have l1_w_0 : w.heap.size < w1.heap.size := by omega); (try (have kq := cellAt hb1 (w.heap.size + 1) (by go_size); have k1_w_1_0 := kq 0; clear kq; have f1_w_1 := frozAt hb1 (w.heap.size + 1) (by go_size); simp [go_sem, *] at k1_w_1_0 f1_w_1)); (try have l1_w_1 : w.heap.size + 1 < w1.heap.size := by omega); (try (have kq := cellAt hb1 (w.heap.size + 1 + 1) (by go_size); have k1_w_2_0 := kq 0; clear kq; have f1_w_2 := frozAt hb1 (w.heap.size + 1 + 1) (by go_size); simp [go_sem, *] at k1_w_2_0 f1_w_2)); (try have l1_w_2 : w.heap.size + 1 + 1 < w1.heap.size := by omega)) | (go_at_call 62; (with_reducible refine ((T0 _).out).mono ?_); rintro e w' ⟨rfl, rfl⟩) | (have _t := tok3; go_at_call 97; (with_reducible refine ((T2 _).out).mono ?_); rintro e w3 ⟨rfl, hb3⟩; clear tok3 _t; have hz3 := hb3.size; (try simp only [World.size_alloc, World.size_setCell, World.size_drew, World.size_drewN'] at hz3); (try (have kq := cellAt hb3 (w.heap.size) (by go_size); have k3_w_0_0 := kq 0; have k3_w_0_1 := kq 1; have k3_w_0_2 := kq 2; clear kq; have f3_w_0 := frozAt hb3 (w.heap.size) (by go_size); simp [go_sem, *] at k3_w_0_0 k3_w_0_1 k3_w_0_2 f3_w_0)); (try have l3_w_0 : w.heap.size < w3.heap.size := by omega); (try (have kq := cellAt hb3 (w.heap.size + 1) (by go_size); have k3_w_1_0 := kq 0; clear kq; have f3_w_1 := frozAt hb3 (w.heap.size + 1) (by go_size); simp [go_sem, *] at k3_w_1_0 f3_w_1)); (try have l3_w_1 : w.heap.size + 1 < w3.heap.size := by omega); (try (have kq := cellAt hb3 (w.heap.size + 1 + 1) (by go_size); have k3_w_2_0 := kq 0; clear kq; have f3_w_2 := frozAt hb3 (w.heap.size + 1 + 1) (by go_size); simp [go_sem, *] at k3_w_2_0 f3_w_2)); (try have l3_w_2 : w.heap.size + 1 + 1 < w3.heap.size := by omega); (try (have kq := cellAt hb3 (w1.heap.size) (by go_size); have k3_w1_0_0 := kq 0; clear kq; have f3_w1_0 := frozAt hb3 (w1.heap.size) (by go_size); simp [go_sem, *] at k3_w1_0_0 f3_w1_0)); (try have l3_w1_0 : w1.heap.size < w3.heap.size := by omega); (try clear k1_w_0_0 k1_w_0_1 k1_w_0_2 f1_w_0); (try clear l1_w_0); (try clear k1_w_1_0 f1_w_1); (try clear l1_w_1); (try clear k1_w_2_0 f1_w_2); (try clear l1_w_2); (try clear k2_w_0_0 k2_w_0_1 k2_w_0_2 f2_w_0); (try clear l2_w_0); (try clear k2_w_1_0 f2_w_1); (try clear l2_w_1); (try clear k2_w_2_0 f2_w_2); (try clear l2_w_2); (try clear k2_w1_0_0 f2_w1_0); (try clear l2_w1_0)) | (go_at_call 63; (with_reducible refine ((T6 _).out).mono ?_); rintro e w' ⟨rfl, rfl⟩))
        refine wp_open (n := 39) (by kernel_rfl) (by kernel_rfl) (by kernel_rfl) (by kernel_rfl) ?_
        simp only [List.take_succ_cons, List.take_zero]
        apply wpS_quiet
        · intro γ W hW hp
          refine ⟨rfl, ?_⟩
          go_big_quiet_op
          first | exact rfl
        · exact locS_const _
        try simp only [Act.put, List.setIfInBounds_toArray, List.set_cons_succ, List.set_cons_zero, Nat.reduceAdd]
        apply wpS_quiet
        · intro γ W hW hp
          refine ⟨rfl, ?_⟩
          go_big_quiet_op
          first | exact rfl
        · exact locS_const _
        try simp only [Act.put, List.setIfInBounds_toArray, List.set_cons_succ, List.set_cons_zero, Nat.reduceAdd]
        apply wpS_quiet
        · intro γ W hW hp
          refine ⟨rfl, ?_⟩
          go_big_quiet_op
          first | exact rfl
        · exact locS_const _
        try simp only [Act.put, List.setIfInBounds_toArray, List.set_cons_succ, List.set_cons_zero, Nat.reduceAdd]
        apply wpS_quiet
        · intro γ W hW hp
          have hs := hW.size
          (try simp only [World.size_alloc, World.size_setCell, World.size_drew, World.size_drewN'] at hs)
          try (have kx_w_0_0 := fun x : Over W => (cellAt x.lies (w.heap.size) (by omega) 0).trans (cellAt hW (w.heap.size) (by go_size) 0); simp [go_sem, *] at kx_w_0_0)
          try (have kx_w_0_1 := fun x : Over W => (cellAt x.lies (w.heap.size) (by omega) 1).trans (cellAt hW (w.heap.size) (by go_size) 1); simp [go_sem, *] at kx_w_0_1)
          try (have kx_w_0_2 := fun x : Over W => (cellAt x.lies (w.heap.size) (by omega) 2).trans (cellAt hW (w.heap.size) (by go_size) 2); simp [go_sem, *] at kx_w_0_2)
          try (have kx_w_1_0 := fun x : Over W => (cellAt x.lies (w.heap.size + 1) (by omega) 0).trans (cellAt hW (w.heap.size + 1) (by go_size) 0); simp [go_sem, *] at kx_w_1_0)
          try (have kx_w_2_0 := fun x : Over W => (cellAt x.lies (w.heap.size + 1 + 1) (by omega) 0).trans (cellAt hW (w.heap.size + 1 + 1) (by go_size) 0); simp [go_sem, *] at kx_w_2_0)
          try (have kx_w1_0_0 := fun x : Over W => (cellAt x.lies (w1.heap.size) (by omega) 0).trans (cellAt hW (w1.heap.size) (by go_size) 0); simp [go_sem, *] at kx_w1_0_0)
          clear hW hp
          refine ⟨rfl, ?_⟩
          go_big_quiet_op
          first | exact rfl
        · exact locS_const _
        try simp only [Act.put, List.setIfInBounds_toArray, List.set_cons_succ, List.set_cons_zero, Nat.reduceAdd]
        apply wpS_quiet
        · intro γ W hW hp
          refine ⟨rfl, ?_⟩
          go_big_quiet_op
          first | exact rfl
        · exact locS_const _
        try simp only [Act.put, List.setIfInBounds_toArray, List.set_cons_succ, List.set_cons_zero, Nat.reduceAdd]
        apply wpS_quiet
        · intro γ W hW hp
          refine ⟨rfl, ?_⟩
          go_big_quiet_op
          first | exact rfl
        · exact locS_const _
        try simp only [Act.put, List.setIfInBounds_toArray, List.set_cons_succ, List.set_cons_zero, Nat.reduceAdd]
        apply wpS_quiet
        · intro γ W hW hp
          refine ⟨rfl, ?_⟩
          go_big_quiet_op
          first | exact rfl
        · exact locS_const _
        try simp only [Act.put, List.setIfInBounds_toArray, List.set_cons_succ, List.set_cons_zero, Nat.reduceAdd]
        apply wpS_open (newRow _ _ _ 5)
        · intro γ W hW hp
          refine ⟨rfl, ?_⟩
          go_simp
          exact ⟨⟨⟨_, rfl, hW.size, heap_alloc_new _ _⟩, fun e => by cases e⟩, (Below.refl _ _).alloc (Nat.le_refl _) _⟩
        try simp only [Act.put, List.setIfInBounds_toArray, List.set_cons_succ, List.set_cons_zero, Nat.reduceAdd]
        apply wpS_quiet
        · intro γ W hW hp
          obtain ⟨g_7, e_7, l_7, k_7⟩ := hp _ (List.mem_append_right _ (List.mem_singleton.2 rfl)) (by kernel_rfl)
          dsimp only at e_7 l_7 k_7
          refine ⟨rfl, ?_⟩
          have E_7 := Lib.hid e_7
          clear e_7
          go_big_quiet_op
          apply Exists.intro
          refine ⟨fun x => ?_, ?_⟩
          · rw [E_7.out]
            have kk_7 := (x.lies.block _ (blk_lt' k_7)).trans k_7
            (first | (go_at_call 96; exact draw_of_same _ (times_five _ _ _ _ _ _ _ _ hn hn2 _ kk_7)) | (go_at_call 95; (with_reducible exact draw_of _ ((T5a _ _ _ _ (kx_w1_0_0 x) (kx_w_2_0 x) (kx_w_1_0 x) (by have := x.lies.size; omega) (by have := x.lies.size; omega) (by have := x.lies.size; omega)).out))) | (go_at_call 95; (with_reducible exact draw_of _ ((T5b _ _ _ _ (kx_w1_0_0 x) (kx_w_2_0 x) (kx_w_1_0 x) (by have := x.lies.size; omega) (by have := x.lies.size; omega) (by have := x.lies.size; omega)).out))))
          exact rfl
        · intro γ k g hk
          have h_7 : updV γ k g 7 = γ 7 := updV_other γ g (fun e => by subst e; exact absurd hk (by rw [show reachB .any _ 100 8 7 = true from by kernel_rfl]; simp))
          first | rfl | simp only [h_7]
        try simp only [Act.put, List.setIfInBounds_toArray, List.set_cons_succ, List.set_cons_zero, Nat.reduceAdd]
        apply wpS_quiet
        · intro γ W hW hp
          refine ⟨rfl, ?_⟩
          go_big_quiet_op
          first | exact rfl
        · exact locS_const _
        try simp only [Act.put, List.setIfInBounds_toArray, List.set_cons_succ, List.set_cons_zero, Nat.reduceAdd]
        apply wpS_quiet
        · intro γ W hW hp
          refine ⟨rfl, ?_⟩
          go_big_quiet_op
          first | exact rfl
        · exact locS_const _
        try simp only [Act.put, List.setIfInBounds_toArray, List.set_cons_succ, List.set_cons_zero, Nat.reduceAdd]
        apply wpS_quiet
        · intro γ W hW hp
          have hs := hW.size
          (try simp only [World.size_alloc, World.size_setCell, World.size_drew, World.size_drewN'] at hs)
          try (have kx_w_0_0 := fun x : Over W => (cellAt x.lies (w.heap.size) (by omega) 0).trans (cellAt hW (w.heap.size) (by go_size) 0); simp [go_sem, *] at kx_w_0_0)
          try (have kx_w_0_1 := fun x : Over W => (cellAt x.lies (w.heap.size) (by omega) 1).trans (cellAt hW (w.heap.size) (by go_size) 1); simp [go_sem, *] at kx_w_0_1)
          try (have kx_w_0_2 := fun x : Over W => (cellAt x.lies (w.heap.size) (by omega) 2).trans (cellAt hW (w.heap.size) (by go_size) 2); simp [go_sem, *] at kx_w_0_2)
          try (have kx_w_1_0 := fun x : Over W => (cellAt x.lies (w.heap.size + 1) (by omega) 0).trans (cellAt hW (w.heap.size + 1) (by go_size) 0); simp [go_sem, *] at kx_w_1_0)
          try (have kx_w_2_0 := fun x : Over W => (cellAt x.lies (w.heap.size + 1 + 1) (by omega) 0).trans (cellAt hW (w.heap.size + 1 + 1) (by go_size) 0); simp [go_sem, *] at kx_w_2_0)
          try (have kx_w1_0_0 := fun x : Over W => (cellAt x.lies (w1.heap.size) (by omega) 0).trans (cellAt hW (w1.heap.size) (by go_size) 0); simp [go_sem, *] at kx_w1_0_0)
          clear hW hp
          refine ⟨rfl, ?_⟩
          go_big_quiet_op
          first | exact rfl
        · exact locS_const _
        try simp only [Act.put, List.setIfInBounds_toArray, List.set_cons_succ, List.set_cons_zero, Nat.reduceAdd]
        apply wpS_quiet
        · intro γ W hW hp
          refine ⟨rfl, ?_⟩
          go_big_quiet_op
          first | exact rfl
        · exact locS_const _
        try simp only [Act.put, List.setIfInBounds_toArray, List.set_cons_succ, List.set_cons_zero, Nat.reduceAdd]
        apply wpS_quiet
        · intro γ W hW hp
          refine ⟨rfl, ?_⟩
          go_big_quiet_op
          first | exact rfl
        · exact locS_const _
        try simp only [Act.put, List.setIfInBounds_toArray, List.set_cons_succ, List.set_cons_zero, Nat.reduceAdd]
        apply wpS_quiet
        · intro γ W hW hp
          refine ⟨rfl, ?_⟩
          go_big_quiet_op
          first | exact rfl
        · exact locS_const _
        try simp only [Act.put, List.setIfInBounds_toArray, List.set_cons_succ, List.set_cons_zero, Nat.reduceAdd]
        apply wpS_open (newRow _ _ _ 5)
        · intro γ W hW hp
          refine ⟨rfl, ?_⟩
          go_simp
          exact ⟨⟨⟨_, rfl, hW.size, heap_alloc_new _ _⟩, fun e => by cases e⟩, (Below.refl _ _).alloc (Nat.le_refl _) _⟩
        try simp only [Act.put, List.setIfInBounds_toArray, List.set_cons_succ, List.set_cons_zero, Nat.reduceAdd]
        apply wpS_quiet
        · intro γ W hW hp
          obtain ⟨g_15, e_15, l_15, k_15⟩ := hp _ (List.mem_append_right _ (List.mem_singleton.2 rfl)) (by kernel_rfl)
          dsimp only at e_15 l_15 k_15
          refine ⟨rfl, ?_⟩
          have E_15 := Lib.hid e_15
          clear e_15
          go_big_quiet_op
          apply Exists.intro
          refine ⟨fun x => ?_, ?_⟩
          · rw [E_15.out]
            have kk_15 := (x.lies.block _ (blk_lt' k_15)).trans k_15
            (first | (go_at_call 96; exact draw_of_same _ (times_five _ _ _ _ _ _ _ _ hn hn2 _ kk_15)) | (go_at_call 95; (with_reducible exact draw_of _ ((T5a _ _ _ _ (kx_w1_0_0 x) (kx_w_2_0 x) (kx_w_1_0 x) (by have := x.lies.size; omega) (by have := x.lies.size; omega) (by have := x.lies.size; omega)).out))) | (go_at_call 95; (with_reducible exact draw_of _ ((T5b _ _ _ _ (kx_w1_0_0 x) (kx_w_2_0 x) (kx_w_1_0 x) (by have := x.lies.size; omega) (by have := x.lies.size; omega) (by have := x.lies.size; omega)).out))))
          exact rfl
        · intro γ k g hk
          have h_15 : updV γ k g 15 = γ 15 := updV_other γ g (fun e => by subst e; exact absurd hk (by rw [show reachB .any _ 100 16 15 = true from by kernel_rfl]; simp))
          first | rfl | simp only [h_15]
        try simp only [Act.put, List.setIfInBounds_toArray, List.set_cons_succ, List.set_cons_zero, Nat.reduceAdd]
        apply wpS_quiet
        · intro γ W hW hp
          refine ⟨rfl, ?_⟩
          go_big_quiet_op
          first | exact rfl
        · exact locS_const _
        try simp only [Act.put, List.setIfInBounds_toArray, List.set_cons_succ, List.set_cons_zero, Nat.reduceAdd]
        apply wpS_quiet
        · intro γ W hW hp
          have hs := hW.size
          (try simp only [World.size_alloc, World.size_setCell, World.size_drew, World.size_drewN'] at hs)
          try (have kx_w_0_0 := fun x : Over W => (cellAt x.lies (w.heap.size) (by omega) 0).trans (cellAt hW (w.heap.size) (by go_size) 0); simp [go_sem, *] at kx_w_0_0)
          try (have kx_w_0_1 := fun x : Over W => (cellAt x.lies (w.heap.size) (by omega) 1).trans (cellAt hW (w.heap.size) (by go_size) 1); simp [go_sem, *] at kx_w_0_1)
          try (have kx_w_0_2 := fun x : Over W => (cellAt x.lies (w.heap.size) (by omega) 2).trans (cellAt hW (w.heap.size) (by go_size) 2); simp [go_sem, *] at kx_w_0_2)
          try (have kx_w_1_0 := fun x : Over W => (cellAt x.lies (w.heap.size + 1) (by omega) 0).trans (cellAt hW (w.heap.size + 1) (by go_size) 0); simp [go_sem, *] at kx_w_1_0)
          try (have kx_w_2_0 := fun x : Over W => (cellAt x.lies (w.heap.size + 1 + 1) (by omega) 0).trans (cellAt hW (w.heap.size + 1 + 1) (by go_size) 0); simp [go_sem, *] at kx_w_2_0)
          try (have kx_w1_0_0 := fun x : Over W => (cellAt x.lies (w1.heap.size) (by omega) 0).trans (cellAt hW (w1.heap.size) (by go_size) 0); simp [go_sem, *] at kx_w1_0_0)
          clear hW hp
          refine ⟨rfl, ?_⟩
          go_big_quiet_op
          apply Exists.intro
          refine ⟨fun x => ?_, ?_⟩
          · (first | (go_at_call 96; exact draw_of_same _ (times_five _ _ _ _ _ _ _ _ hn hn2 _ %K)) | (go_at_call 95; (with_reducible exact draw_of _ ((T5a _ _ _ _ (kx_w1_0_0 x) (kx_w_2_0 x) (kx_w_1_0 x) (by have := x.lies.size; omega) (by have := x.lies.size; omega) (by have := x.lies.size; omega)).out))) | (go_at_call 95; (with_reducible exact draw_of _ ((T5b _ _ _ _ (kx_w1_0_0 x) (kx_w_2_0 x) (kx_w_1_0 x) (by have := x.lies.size; omega) (by have := x.lies.size; omega) (by have := x.lies.size; omega)).out))))
          exact rfl
        · exact locS_const _
        try simp only [Act.put, List.setIfInBounds_toArray, List.set_cons_succ, List.set_cons_zero, Nat.reduceAdd]
        apply wpS_quiet
        · intro γ W hW hp
          refine ⟨rfl, ?_⟩
          go_big_quiet_op
          first | exact rfl
        · exact locS_const _
        try simp only [Act.put, List.setIfInBounds_toArray, List.set_cons_succ, List.set_cons_zero, Nat.reduceAdd]
        apply wpS_quiet
        · intro γ W hW hp
          refine ⟨rfl, ?_⟩
          go_big_quiet_op
          first | exact rfl
        · exact locS_const _
        try simp only [Act.put, List.setIfInBounds_toArray, List.set_cons_succ, List.set_cons_zero, Nat.reduceAdd]
        apply wpS_quiet
        · intro γ W hW hp
          refine ⟨rfl, ?_⟩
          go_big_quiet_op
          first | exact rfl
        · exact locS_const _
        try simp only [Act.put, List.setIfInBounds_toArray, List.set_cons_succ, List.set_cons_zero, Nat.reduceAdd]
        apply wpS_quiet
        · intro γ W hW hp
          have hs := hW.size
          (try simp only [World.size_alloc, World.size_setCell, World.size_drew, World.size_drewN'] at hs)
          try (have kx_w_0_0 := fun x : Over W => (cellAt x.lies (w.heap.size) (by omega) 0).trans (cellAt hW (w.heap.size) (by go_size) 0); simp [go_sem, *] at kx_w_0_0)
          try (have kx_w_0_1 := fun x : Over W => (cellAt x.lies (w.heap.size) (by omega) 1).trans (cellAt hW (w.heap.size) (by go_size) 1); simp [go_sem, *] at kx_w_0_1)
          try (have kx_w_0_2 := fun x : Over W => (cellAt x.lies (w.heap.size) (by omega) 2).trans (cellAt hW (w.heap.size) (by go_size) 2); simp [go_sem, *] at kx_w_0_2)
          try (have kx_w_1_0 := fun x : Over W => (cellAt x.lies (w.heap.size + 1) (by omega) 0).trans (cellAt hW (w.heap.size + 1) (by go_size) 0); simp [go_sem, *] at kx_w_1_0)
          try (have kx_w_2_0 := fun x : Over W => (cellAt x.lies (w.heap.size + 1 + 1) (by omega) 0).trans (cellAt hW (w.heap.size + 1 + 1) (by go_size) 0); simp [go_sem, *] at kx_w_2_0)
          try (have kx_w1_0_0 := fun x : Over W => (cellAt x.lies (w1.heap.size) (by omega) 0).trans (cellAt hW (w1.heap.size) (by go_size) 0); simp [go_sem, *] at kx_w1_0_0)
          clear hW hp
          refine ⟨rfl, ?_⟩
          go_big_quiet_op
          first | exact rfl
        · exact locS_const _
        try simp only [Act.put, List.setIfInBounds_toArray, List.set_cons_succ, List.set_cons_zero, Nat.reduceAdd]
        apply wpS_quiet
        · intro γ W hW hp
          refine ⟨rfl, ?_⟩
          go_big_quiet_op
          first | exact rfl
        · exact locS_const _
        try simp only [Act.put, List.setIfInBounds_toArray, List.set_cons_succ, List.set_cons_zero, Nat.reduceAdd]
        apply wpS_quiet
        · intro γ W hW hp
          refine ⟨rfl, ?_⟩
          go_big_quiet_op
          first | exact rfl
        · exact locS_const _
        try simp only [Act.put, List.setIfInBounds_toArray, List.set_cons_succ, List.set_cons_zero, Nat.reduceAdd]
        apply wpS_quiet
        · intro γ W hW hp
          refine ⟨rfl, ?_⟩
          go_big_quiet_op
          first | exact rfl
        · exact locS_const _
        try simp only [Act.put, List.setIfInBounds_toArray, List.set_cons_succ, List.set_cons_zero, Nat.reduceAdd]
        apply wpS_open (newRow _ _ _ 5)
        · intro γ W hW hp
          refine ⟨rfl, ?_⟩
          go_simp
          exact ⟨⟨⟨_, rfl, hW.size, heap_alloc_new _ _⟩, fun e => by cases e⟩, (Below.refl _ _).alloc (Nat.le_refl _) _⟩
        try simp only [Act.put, List.setIfInBounds_toArray, List.set_cons_succ, List.set_cons_zero, Nat.reduceAdd]
        apply wpS_quiet
        · intro γ W hW hp
          obtain ⟨g_26, e_26, l_26, k_26⟩ := hp _ (List.mem_append_right _ (List.mem_singleton.2 rfl)) (by kernel_rfl)
          dsimp only at e_26 l_26 k_26
          refine ⟨rfl, ?_⟩
          have E_26 := Lib.hid e_26
          clear e_26
          go_big_quiet_op
          apply Exists.intro
          refine ⟨fun x => ?_, ?_⟩
          · rw [E_26.out]
            have kk_26 := (x.lies.block _ (blk_lt' k_26)).trans k_26
            (first | (go_at_call 96; exact draw_of_same _ (times_five _ _ _ _ _ _ _ _ hn hn2 _ kk_26)) | (go_at_call 95; (with_reducible exact draw_of _ ((T5a _ _ _ _ (kx_w1_0_0 x) (kx_w_2_0 x) (kx_w_1_0 x) (by have := x.lies.size; omega) (by have := x.lies.size; omega) (by have := x.lies.size; omega)).out))) | (go_at_call 95; (with_reducible exact draw_of _ ((T5b _ _ _ _ (kx_w1_0_0 x) (kx_w_2_0 x) (kx_w_1_0 x) (by have := x.lies.size; omega) (by have := x.lies.size; omega) (by have := x.lies.size; omega)).out))))
          exact rfl
        · intro γ k g hk
          have h_26 : updV γ k g 26 = γ 26 := updV_other γ g (fun e => by subst e; exact absurd hk (by rw [show reachB .any _ 100 27 26 = true from by kernel_rfl]; simp))
          first | rfl | simp only [h_26]
        try simp only [Act.put, List.setIfInBounds_toArray, List.set_cons_succ, List.set_cons_zero, Nat.reduceAdd]
        apply wpS_quiet
        · intro γ W hW hp
          refine ⟨rfl, ?_⟩
          go_big_quiet_op
          first | exact rfl
        · exact locS_const _
        try simp only [Act.put, List.setIfInBounds_toArray, List.set_cons_succ, List.set_cons_zero, Nat.reduceAdd]
        apply wpS_quiet
        · intro γ W hW hp
          refine ⟨rfl, ?_⟩
          go_big_quiet_op
          first | exact rfl
        · exact locS_const _
        try simp only [Act.put, List.setIfInBounds_toArray, List.set_cons_succ, List.set_cons_zero, Nat.reduceAdd]
        apply wpS_quiet
        · intro γ W hW hp
          have hs := hW.size
          (try simp only [World.size_alloc, World.size_setCell, World.size_drew, World.size_drewN'] at hs)
          try (have kx_w_0_0 := fun x : Over W => (cellAt x.lies (w.heap.size) (by omega) 0).trans (cellAt hW (w.heap.size) (by go_size) 0); simp [go_sem, *] at kx_w_0_0)
          try (have kx_w_0_1 := fun x : Over W => (cellAt x.lies (w.heap.size) (by omega) 1).trans (cellAt hW (w.heap.size) (by go_size) 1); simp [go_sem, *] at kx_w_0_1)
          try (have kx_w_0_2 := fun x : Over W => (cellAt x.lies (w.heap.size) (by omega) 2).trans (cellAt hW (w.heap.size) (by go_size) 2); simp [go_sem, *] at kx_w_0_2)
          try (have kx_w_1_0 := fun x : Over W => (cellAt x.lies (w.heap.size + 1) (by omega) 0).trans (cellAt hW (w.heap.size + 1) (by go_size) 0); simp [go_sem, *] at kx_w_1_0)
          try (have kx_w_2_0 := fun x : Over W => (cellAt x.lies (w.heap.size + 1 + 1) (by omega) 0).trans (cellAt hW (w.heap.size + 1 + 1) (by go_size) 0); simp [go_sem, *] at kx_w_2_0)
          try (have kx_w1_0_0 := fun x : Over W => (cellAt x.lies (w1.heap.size) (by omega) 0).trans (cellAt hW (w1.heap.size) (by go_size) 0); simp [go_sem, *] at kx_w1_0_0)
          clear hW hp
          refine ⟨rfl, ?_⟩
          go_big_quiet_op
          first | exact rfl
        · exact locS_const _
        try simp only [Act.put, List.setIfInBounds_toArray, List.set_cons_succ, List.set_cons_zero, Nat.reduceAdd]
        apply wpS_quiet
        · intro γ W hW hp
          refine ⟨rfl, ?_⟩
          go_big_quiet_op
          first | exact rfl
        · exact locS_const _
        try simp only [Act.put, List.setIfInBounds_toArray, List.set_cons_succ, List.set_cons_zero, Nat.reduceAdd]
        apply wpS_quiet
        · intro γ W hW hp
          refine ⟨rfl, ?_⟩
          go_big_quiet_op
          first | exact rfl
        · exact locS_const _
        try simp only [Act.put, List.setIfInBounds_toArray, List.set_cons_succ, List.set_cons_zero, Nat.reduceAdd]
        apply wpS_quiet
        · intro γ W hW hp
          refine ⟨rfl, ?_⟩
          go_big_quiet_op
          first | exact rfl
        · exact locS_const _
        try simp only [Act.put, List.setIfInBounds_toArray, List.set_cons_succ, List.set_cons_zero, Nat.reduceAdd]
        apply wpS_open (newRow _ _ _ 5)
        · intro γ W hW hp
          refine ⟨rfl, ?_⟩
          go_simp
          exact ⟨⟨⟨_, rfl, hW.size, heap_alloc_new _ _⟩, fun e => by cases e⟩, (Below.refl _ _).alloc (Nat.le_refl _) _⟩
        try simp only [Act.put, List.setIfInBounds_toArray, List.set_cons_succ, List.set_cons_zero, Nat.reduceAdd]
        apply wpS_quiet
        · intro γ W hW hp
          obtain ⟨g_34, e_34, l_34, k_34⟩ := hp _ (List.mem_append_right _ (List.mem_singleton.2 rfl)) (by kernel_rfl)
          dsimp only at e_34 l_34 k_34
          refine ⟨rfl, ?_⟩
          have E_34 := Lib.hid e_34
          clear e_34
          go_big_quiet_op
          apply Exists.intro
          refine ⟨fun x => ?_, ?_⟩
          · rw [E_34.out]
            have kk_34 := (x.lies.block _ (blk_lt' k_34)).trans k_34
            (first | (go_at_call 96; exact draw_of_same _ (times_five _ _ _ _ _ _ _ _ hn hn2 _ kk_34)) | (go_at_call 95; (with_reducible exact draw_of _ ((T5a _ _ _ _ (kx_w1_0_0 x) (kx_w_2_0 x) (kx_w_1_0 x) (by have := x.lies.size; omega) (by have := x.lies.size; omega) (by have := x.lies.size; omega)).out))) | (go_at_call 95; (with_reducible exact draw_of _ ((T5b _ _ _ _ (kx_w1_0_0 x) (kx_w_2_0 x) (kx_w_1_0 x) (by have := x.lies.size; omega) (by have := x.lies.size; omega) (by have := x.lies.size; omega)).out))))
          exact rfl
        · intro γ k g hk
          have h_34 : updV γ k g 34 = γ 34 := updV_other γ g (fun e => by subst e; exact absurd hk (by rw [show reachB .any _ 100 35 34 = true from by kernel_rfl]; simp))
          first | rfl | simp only [h_34]
        try simp only [Act.put, List.setIfInBounds_toArray, List.set_cons_succ, List.set_cons_zero, Nat.reduceAdd]
        apply wpS_quiet
        · intro γ W hW hp
          refine ⟨rfl, ?_⟩
          go_big_quiet_op
          first | exact rfl
        · exact locS_const _
        try simp only [Act.put, List.setIfInBounds_toArray, List.set_cons_succ, List.set_cons_zero, Nat.reduceAdd]
        apply wpS_quiet
        · intro γ W hW hp
          have hs := hW.size
          (try simp only [World.size_alloc, World.size_setCell, World.size_drew, World.size_drewN'] at hs)
          try (have kx_w_0_0 := fun x : Over W => (cellAt x.lies (w.heap.size) (by omega) 0).trans (cellAt hW (w.heap.size) (by go_size) 0); simp [go_sem, *] at kx_w_0_0)
          try (have kx_w_0_1 := fun x : Over W => (cellAt x.lies (w.heap.size) (by omega) 1).trans (cellAt hW (w.heap.size) (by go_size) 1); simp [go_sem, *] at kx_w_0_1)
          try (have kx_w_0_2 := fun x : Over W => (cellAt x.lies (w.heap.size) (by omega) 2).trans (cellAt hW (w.heap.size) (by go_size) 2); simp [go_sem, *] at kx_w_0_2)
          try (have kx_w_1_0 := fun x : Over W => (cellAt x.lies (w.heap.size + 1) (by omega) 0).trans (cellAt hW (w.heap.size + 1) (by go_size) 0); simp [go_sem, *] at kx_w_1_0)
          try (have kx_w_2_0 := fun x : Over W => (cellAt x.lies (w.heap.size + 1 + 1) (by omega) 0).trans (cellAt hW (w.heap.size + 1 + 1) (by go_size) 0); simp [go_sem, *] at kx_w_2_0)
          try (have kx_w1_0_0 := fun x : Over W => (cellAt x.lies (w1.heap.size) (by omega) 0).trans (cellAt hW (w1.heap.size) (by go_size) 0); simp [go_sem, *] at kx_w1_0_0)
          clear hW hp
          refine ⟨rfl, ?_⟩
          go_big_quiet_op
          apply Exists.intro
          refine ⟨fun x => ?_, ?_⟩
          · (first | (go_at_call 96; exact draw_of_same _ (times_five _ _ _ _ _ _ _ _ hn hn2 _ %K)) | (go_at_call 95; (with_reducible exact draw_of _ ((T5a _ _ _ _ (kx_w1_0_0 x) (kx_w_2_0 x) (kx_w_1_0 x) (by have := x.lies.size; omega) (by have := x.lies.size; omega) (by have := x.lies.size; omega)).out))) | (go_at_call 95; (with_reducible exact draw_of _ ((T5b _ _ _ _ (kx_w1_0_0 x) (kx_w_2_0 x) (kx_w_1_0 x) (by have := x.lies.size; omega) (by have := x.lies.size; omega) (by have := x.lies.size; omega)).out))))
          exact rfl
        · exact locS_const _
        try simp only [Act.put, List.setIfInBounds_toArray, List.set_cons_succ, List.set_cons_zero, Nat.reduceAdd]
        apply wpS_quiet
        · intro γ W hW hp
          refine ⟨rfl, ?_⟩
          go_big_quiet_op
          first | exact rfl
        · exact locS_const _
        try simp only [Act.put, List.setIfInBounds_toArray, List.set_cons_succ, List.set_cons_zero, Nat.reduceAdd]
        apply wpS_end
        intro γ w2 hb2 hG2 hA2
        obtain ⟨g2_7, e2_7, l2_7, k2_7⟩ := hG2 _ (List.mem_append_left _ (List.mem_append_left _ (List.mem_append_left _ (List.mem_append_right _ (List.mem_singleton.2 rfl)))))
        dsimp only at e2_7 l2_7 k2_7
        obtain ⟨g2_15, e2_15, l2_15, k2_15⟩ := hG2 _ (List.mem_append_left _ (List.mem_append_left _ (List.mem_append_right _ (List.mem_singleton.2 rfl))))
        dsimp only at e2_15 l2_15 k2_15
        obtain ⟨g2_26, e2_26, l2_26, k2_26⟩ := hG2 _ (List.mem_append_left _ (List.mem_append_right _ (List.mem_singleton.2 rfl)))
        dsimp only at e2_26 l2_26 k2_26
        obtain ⟨g2_34, e2_34, l2_34, k2_34⟩ := hG2 _ (List.mem_append_right _ (List.mem_singleton.2 rfl))
        dsimp only at e2_34 l2_34 k2_34
        clear hG2 hA2
        try simp only [e2_7, e2_15, e2_26, e2_34]
        clear e2_7
        clear e2_15
        clear e2_26
        clear e2_34
        simp only [List.drop_succ_cons, List.drop_zero]
        have hz2 := hb2.size
        (try simp only [World.size_alloc, World.size_setCell, World.size_drew, World.size_drewN'] at hz2)
        (try (have kq := cellAt hb2 (w.heap.size) (by go_size); have k2_w_0_0 := kq 0; have k2_w_0_1 := kq 1; have k2_w_0_2 := kq 2; clear kq; have f2_w_0 := frozAt hb2 (w.heap.size) (by go_size); simp [go_sem, *] at k2_w_0_0 k2_w_0_1 k2_w_0_2 f2_w_0))
        (try have l2_w_0 : w.heap.size < w2.heap.size := by omega)
        (try (have kq := cellAt hb2 (w.heap.size + 1) (by go_size); have k2_w_1_0 := kq 0; clear kq; have f2_w_1 := frozAt hb2 (w.heap.size + 1) (by go_size); simp [go_sem, *] at k2_w_1_0 f2_w_1))
        (try have l2_w_1 : w.heap.size + 1 < w2.heap.size := by omega)
        (try (have kq := cellAt hb2 (w.heap.size + 1 + 1) (by go_size); have k2_w_2_0 := kq 0; clear kq; have f2_w_2 := frozAt hb2 (w.heap.size + 1 + 1) (by go_size); simp [go_sem, *] at k2_w_2_0 f2_w_2))
        (try have l2_w_2 : w.heap.size + 1 + 1 < w2.heap.size := by omega)
        (try (have kq := cellAt hb2 (w1.heap.size) (by go_size); have k2_w1_0_0 := kq 0; clear kq; have f2_w1_0 := frozAt hb2 (w1.heap.size) (by go_size); simp [go_sem, *] at k2_w1_0_0 f2_w1_0))
        (try have l2_w1_0 : w1.heap.size < w2.heap.size := by omega)
        (try clear k1_w_0_0 k1_w_0_1 k1_w_0_2 f1_w_0)
        (try clear l1_w_0)
        (try clear k1_w_1_0 f1_w_1)
        (try clear l1_w_1)
        (try clear k1_w_2_0 f1_w_2)
        (try clear l1_w_2)
        go_wp2_with (first | (have _t := tok1; go_at_call 94; (with_reducible refine ((T1 _).out).mono ?_); rintro e w1 ⟨rfl, hb1⟩; clear tok1 _t; have hz1 := hb1.size; (try simp only [World.size_alloc, World.size_setCell, World.size_drew, World.size_drewN'] at hz1); (try (have kq := cellAt hb1 (w.heap.size) (by go_size); have k1_w_0_0 := kq 0; have k1_w_0_1 := kq 1; have k1_w_0_2 := kq 2; clear kq; have f1_w_0 := frozAt hb1 (w.heap.size) (by go_size); simp [go_sem, *] at k1_w_0_0 k1_w_0_1 k1_w_0_2 f1_w_0)); (try have l1_w_0 : w.heap.size < w1.heap.size := by omega); (try (have kq := cellAt hb1 (w.heap.size + 1) (by go_size); have k1_w_1_0 := kq 0; clear kq; have f1_w_1 := frozAt hb1 (w.heap.size + 1) (by go_size); simp [go_sem, *] at k1_w_1_0 f1_w_1)); (try have l1_w_1 : w.heap.size + 1 < w1.heap.size := by omega); (try (have kq := cellAt hb1 (w.heap.size + 1 + 1) (by go_size); have k1_w_2_0 := kq 0; clear kq; have f1_w_2 := frozAt hb1 (w.heap.size + 1 + 1) (by go_size); simp [go_sem, *] at k1_w_2_0 f1_w_2)); (try have l1_w_2 : w.heap.size + 1 + 1 < w1.heap.size := by omega)) | (go_at_call 62; (with_reducible refine ((T0 _).out).mono ?_); rintro e w' ⟨rfl, rfl⟩) | (have _t := tok3; go_at_call 97; (with_reducible refine ((T2 _).out).mono ?_); rintro e w3 ⟨rfl, hb3⟩; clear tok3 _t; have hz3 := hb3.size; (try simp only [World.size_alloc, World.size_setCell, World.size_drew, World.size_drewN'] at hz3); (try (have kq := cellAt hb3 (w.heap.size) (by go_size); have k3_w_0_0 := kq 0; have k3_w_0_1 := kq 1; have k3_w_0_2 := kq 2; clear kq; have f3_w_0 := frozAt hb3 (w.heap.size) (by go_size); simp [go_sem, *] at k3_w_0_0 k3_w_0_1 k3_w_0_2 f3_w_0)); (try have l3_w_0 : w.heap.size < w3.heap.size := by omega); (try (have kq := cellAt hb3 (w.heap.size + 1) (by go_size); have k3_w_1_0 := kq 0; clear kq; have f3_w_1 := frozAt hb3 (w.heap.size + 1) (by go_size); simp [go_sem, *] at k3_w_1_0 f3_w_1)); (try have l3_w_1 : w.heap.size + 1 < w3.heap.size := by omega); (try (have kq := cellAt hb3 (w.heap.size + 1 + 1) (by go_size); have k3_w_2_0 := kq 0; clear kq; have f3_w_2 := frozAt hb3 (w.heap.size + 1 + 1) (by go_size); simp [go_sem, *] at k3_w_2_0 f3_w_2)); (try have l3_w_2 : w.heap.size + 1 + 1 < w3.heap.size := by omega); (try (have kq := cellAt hb3 (w1.heap.size) (by go_size); have k3_w1_0_0 := kq 0; clear kq; have f3_w1_0 := frozAt hb3 (w1.heap.size) (by go_size); simp [go_sem, *] at k3_w1_0_0 f3_w1_0)); (try have l3_w1_0 : w1.heap.size < w3.heap.size := by omega); (try clear k1_w_0_0 k1_w_0_1 k1_w_0_2 f1_w_0); (try clear l1_w_0); (try clear k1_w_1_0 f1_w_1); (try clear l1_w_1); (try clear k1_w_2_0 f1_w_2); (try clear l1_w_2); (try clear k2_w_0_0 k2_w_0_1 k2_w_0_2 f2_w_0); (try clear l2_w_0); (try clear k2_w_1_0 f2_w_1); (try clear l2_w_1); (try clear k2_w_2_0 f2_w_2); (try clear l2_w_2); (try clear k2_w1_0_0 f2_w1_0); (try clear l2_w1_0)) | (go_at_call 63; (with_reducible refine ((T6 _).out).mono ?_); rintro e w' ⟨rfl, rfl⟩))
        all_goals
          go_ret
          refine ⟨ret_bool ?_, ?_⟩
          · rw [HL.out, HW.out, Bool.eq_iff_iff]
            simp only [decide_eq_true_eq]
            omega
          repeat' first | (with_reducible first | apply zRf | assumption | apply zDn | apply zDr | apply zAl | apply zSt | refine zVi (by assumption) ?_ ?_) | go_size
end Go.Proofs.YtegiddpakocodaaGreat
