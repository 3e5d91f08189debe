/- HalvesOf: the walk of the law. -/
import Derived.Test.YtndmacieecmapaaHv3
import Derived.Test.YtndmacieecmapaaMkP
import Derived.Test.YtndmacieecmapaaToL
import Derived.Test.YtndmacieecmapaaTup
namespace Go.Proofs.Ytndmacieecmapaa
open Go.RowKit
set_option linter.unusedVariables false
set_option maxHeartbeats 1000000
set_option maxRecDepth 20000
set_option linter.unusedSimpArgs false
attribute [local go_sem] openAt openUpon
theorem hvR_len (A B X Y E M : Int) : (hvR A B X Y E M).length ≤ 1000000 := by
  unfold hvR
  split
  · rename_i h
    unfold hvB at h
    rw [Bool.and_eq_true] at h
    have hm := inB_iff.1 h.2
    have h1 := hvE_len A B M.toNat (X, Y, E) 20
    unfold hvL
    rw [List.length_append]
    have h2 : (if (X, Y, E).2.2 = 0 then [((0 : Int), (0 : Int), (0 : Int))] else []).length ≤ 1 := by split <;> simp
    omega
  · simp
def openX (B0 n : Nat) (zs : List Int) (ok : Bool) : St where
  ok v W := ∃ u B, v = .tuple #[u, .bool ok] ∧ SlX W B 3 u n zs ∧ B0 ≤ B
  keep v W W2 h hb := by
    obtain ⟨u, B, h1, h2, h3⟩ := h
    exact ⟨u, B, h1, h2.via hb, h3⟩
theorem open_X {f : FuncId} {args : Array Value} {W : World} {n : Nat} {zs : List Int} {ok : Bool} {B0 : Nat} (h : Calls Try.prog f args W (NewX W 3 n zs ok)) (hB : B0 ≤ W.heap.size) : Calls Try.prog f args W fun e w' => ∃ v, e = .returned v ∧ (openX B0 n zs ok).ok v w' ∧ Below W.heap.size W w' :=
  h.mono fun e w' ⟨v, B, h1, h2, h3, h4⟩ => ⟨_, h1, ⟨v, B, rfl, h2, Nat.le_trans hB h3⟩, h4⟩
theorem FnExactHalvesOf_any (A B x y e n0 : Int) (w : World) : Calls Try.prog 3 #[.agg #[.int .i64 A, .int .i64 B], .agg #[.int .i64 x, .int .i64 y, .int .i64 e], .int .i64 n0] w fun e w' => e = .returned (.bool true) ∧ Below w.heap.size w w' := by
  have CS := fun W : World => sHalvesOf_any A B x y e n0 W
  have CI := fun W : World => HalvesOf_any A B x y e n0 W
  have hzl := hvR_len A B x y e n0
  obtain ⟨n, hn⟩ : ∃ n, (hvR A B x y e n0).length = n := ⟨_, rfl⟩
  obtain ⟨zs, hz⟩ : ∃ z, flat3 (hvR A B x y e n0) = z := ⟨_, rfl⟩
  rw [hn, hz] at CS CI
  rw [hn] at hzl
  clear hn hz
  generalize hvB A B x y e n0 = ok at *
  have tok1 : True := trivial
  have tok2 : True := trivial
  have tok3 : True := trivial
  have tok4 : True := trivial
  have tok5 : True := trivial
  have tok6 : True := trivial
  have tok7 : True := trivial
  have tok8 : True := trivial
  have tok9 : True := trivial
  go_enter Try.func3, Try.ntmps3
  go_wp2_with fail
  refine wp_open (n := 10) (by kernel_rfl) (by kernel_rfl) (by kernel_rfl) (by kernel_rfl) ?_
  simp only [List.take_succ_cons, List.take_zero]
  apply wpS_quiet
  · intro γ W hW hp
    have hs := hW.size
    (try simp only [World.size_alloc, World.size_setCell, World.size_drew, World.size_drewN'] at hs)
    try (have kx_w_0_0 := fun x : Over W => (cellAt x.lies (w.heap.size) (by omega) 0).trans (cellAt hW (w.heap.size) (by go_size) 0); simp [go_sem, *] at kx_w_0_0)
    try (have kx_w_0_1 := fun x : Over W => (cellAt x.lies (w.heap.size) (by omega) 1).trans (cellAt hW (w.heap.size) (by go_size) 1); simp [go_sem, *] at kx_w_0_1)
    try (have kx_w_1_0 := fun x : Over W => (cellAt x.lies (w.heap.size + 1) (by omega) 0).trans (cellAt hW (w.heap.size + 1) (by go_size) 0); simp [go_sem, *] at kx_w_1_0)
    try (have kx_w_1_1 := fun x : Over W => (cellAt x.lies (w.heap.size + 1) (by omega) 1).trans (cellAt hW (w.heap.size + 1) (by go_size) 1); simp [go_sem, *] at kx_w_1_1)
    try (have kx_w_1_2 := fun x : Over W => (cellAt x.lies (w.heap.size + 1) (by omega) 2).trans (cellAt hW (w.heap.size + 1) (by go_size) 2); simp [go_sem, *] at kx_w_1_2)
    clear hW hp
    refine ⟨rfl, ?_⟩
    go_big_quiet_op
    first | exact rfl
  · exact locS_const _
  try simp only [Act.put, List.setIfInBounds_toArray, List.set_cons_succ, List.set_cons_zero, Nat.reduceAdd]
  apply wpS_quiet
  · intro γ W hW hp
    refine ⟨rfl, ?_⟩
    go_big_quiet_op
    apply Exists.intro
    refine ⟨fun x => ?_, ?_⟩
    · (first | (go_at_call 5; exact draw_of _ (toCurve_any _ _ _)) | (go_at_call 6; exact draw_of _ (toPoint_any _ _ _ _)))
    exact rfl
  · exact locS_const _
  try simp only [Act.put, List.setIfInBounds_toArray, List.set_cons_succ, List.set_cons_zero, Nat.reduceAdd]
  apply wpS_quiet
  · intro γ W hW hp
    have hs := hW.size
    (try simp only [World.size_alloc, World.size_setCell, World.size_drew, World.size_drewN'] at hs)
    try (have kx_w_0_0 := fun x : Over W => (cellAt x.lies (w.heap.size) (by omega) 0).trans (cellAt hW (w.heap.size) (by go_size) 0); simp [go_sem, *] at kx_w_0_0)
    try (have kx_w_0_1 := fun x : Over W => (cellAt x.lies (w.heap.size) (by omega) 1).trans (cellAt hW (w.heap.size) (by go_size) 1); simp [go_sem, *] at kx_w_0_1)
    try (have kx_w_1_0 := fun x : Over W => (cellAt x.lies (w.heap.size + 1) (by omega) 0).trans (cellAt hW (w.heap.size + 1) (by go_size) 0); simp [go_sem, *] at kx_w_1_0)
    try (have kx_w_1_1 := fun x : Over W => (cellAt x.lies (w.heap.size + 1) (by omega) 1).trans (cellAt hW (w.heap.size + 1) (by go_size) 1); simp [go_sem, *] at kx_w_1_1)
    try (have kx_w_1_2 := fun x : Over W => (cellAt x.lies (w.heap.size + 1) (by omega) 2).trans (cellAt hW (w.heap.size + 1) (by go_size) 2); simp [go_sem, *] at kx_w_1_2)
    clear hW hp
    refine ⟨rfl, ?_⟩
    go_big_quiet_op
    first | exact rfl
  · exact locS_const _
  try simp only [Act.put, List.setIfInBounds_toArray, List.set_cons_succ, List.set_cons_zero, Nat.reduceAdd]
  apply wpS_quiet
  · intro γ W hW hp
    refine ⟨rfl, ?_⟩
    go_big_quiet_op
    apply Exists.intro
    refine ⟨fun x => ?_, ?_⟩
    · (first | (go_at_call 5; exact draw_of _ (toCurve_any _ _ _)) | (go_at_call 6; exact draw_of _ (toPoint_any _ _ _ _)))
    exact rfl
  · exact locS_const _
  try simp only [Act.put, List.setIfInBounds_toArray, List.set_cons_succ, List.set_cons_zero, Nat.reduceAdd]
  apply wpS_quiet
  · intro γ W hW hp
    refine ⟨rfl, ?_⟩
    go_big_quiet_op
    first | exact rfl
  · exact locS_const _
  try simp only [Act.put, List.setIfInBounds_toArray, List.set_cons_succ, List.set_cons_zero, Nat.reduceAdd]
  apply wpS_open (openX w.heap.size n zs ok)
  · intro γ W hW hp
    have kc_w_0 := cellAt hW (w.heap.size) (by go_size)
    try simp [go_sem, *] at kc_w_0
    have kc_w_1 := cellAt hW (w.heap.size + 1) (by go_size)
    try simp [go_sem, *] at kc_w_1
    refine ⟨rfl, ?_⟩
    go_simp
    refine plainNew rfl ?_
    exact open_X (CS _) (by (have := hW.size; (try simp only [World.size_alloc, World.size_setCell, World.size_drew, World.size_drewN'] at this); omega))
  try simp only [Act.put, List.setIfInBounds_toArray, List.set_cons_succ, List.set_cons_zero, Nat.reduceAdd]
  apply wpS_quiet
  · intro γ W hW hp
    have hp_5 := hp _ (List.mem_append_right _ (List.mem_singleton.2 rfl)) (by kernel_rfl)
    dsimp only at hp_5
    refine ⟨rfl, ?_⟩
    go_big_quiet_op
    first | exact rfl
  · intro γ k g hk
    have h_5 : updV γ k g 5 = γ 5 := updV_other γ g (fun e => by subst e; exact absurd hk (by rw [show reachB .any _ 100 6 5 = true from by kernel_rfl]; simp))
    first | rfl | simp only [h_5]
  try simp only [Act.put, List.setIfInBounds_toArray, List.set_cons_succ, List.set_cons_zero, Nat.reduceAdd]
  apply wpS_quiet (v := fun γ => tupAt (γ 5) 0)
  · intro γ W hW hp
    have hp_5 := hp _ (List.mem_append_right _ (List.mem_singleton.2 rfl)) (by kernel_rfl)
    dsimp only at hp_5
    obtain ⟨uA, bA, eA, -⟩ := hp_5
    refine ⟨rfl, ?_⟩
    simp only [eA]
    go_big_quiet_op
    first | exact rfl | simp [tupAt, eA]
  · intro γ k g hk
    have h_5 : updV γ k g 5 = γ 5 := updV_other γ g (fun e => by subst e; exact absurd hk (by rw [show reachB .any _ 100 7 5 = true from by kernel_rfl]; simp))
    simp only [h_5]
  try simp only [Act.put, List.setIfInBounds_toArray, List.set_cons_succ, List.set_cons_zero, Nat.reduceAdd]
  apply wpS_quiet (v := fun γ => tupAt (γ 5) 1)
  · intro γ W hW hp
    have hp_5 := hp _ (List.mem_append_right _ (List.mem_singleton.2 rfl)) (by kernel_rfl)
    dsimp only at hp_5
    obtain ⟨uA, bA, eA, -⟩ := hp_5
    refine ⟨rfl, ?_⟩
    simp only [eA]
    go_big_quiet_op
    first | exact rfl | simp [tupAt, eA]
  · intro γ k g hk
    have h_5 : updV γ k g 5 = γ 5 := updV_other γ g (fun e => by subst e; exact absurd hk (by rw [show reachB .any _ 100 8 5 = true from by kernel_rfl]; simp))
    simp only [h_5]
  try simp only [Act.put, List.setIfInBounds_toArray, List.set_cons_succ, List.set_cons_zero, Nat.reduceAdd]
  apply wpS_quiet
  · intro γ W hW hp
    have hp_5 := hp _ (List.mem_append_right _ (List.mem_singleton.2 rfl)) (by kernel_rfl)
    dsimp only at hp_5
    refine ⟨rfl, ?_⟩
    go_big_quiet_op
    first | exact rfl
  · intro γ k g hk
    have h_5 : updV γ k g 5 = γ 5 := updV_other γ g (fun e => by subst e; exact absurd hk (by rw [show reachB .any _ 100 9 5 = true from by kernel_rfl]; simp))
    first | rfl | simp only [h_5]
  try simp only [Act.put, List.setIfInBounds_toArray, List.set_cons_succ, List.set_cons_zero, Nat.reduceAdd]
  apply wpS_end
  intro γ w1 hb1 hG1 hA1
  have hg1_5 := hG1 _ (List.mem_append_right _ (List.mem_singleton.2 rfl))
  dsimp only at hg1_5
  clear hG1 hA1
  simp only [List.drop_succ_cons, List.drop_zero]
  have hz1 := hb1.size
  (try simp only [World.size_alloc, World.size_setCell, World.size_drew, World.size_drewN'] at hz1)
  (try (have kq := cellAt hb1 (w.heap.size) (by go_size); have k1_w_0_0 := kq 0; have k1_w_0_1 := kq 1; clear kq; have f1_w_0 := frozAt hb1 (w.heap.size) (by go_size); simp [go_sem, *] at k1_w_0_0 k1_w_0_1 f1_w_0))
  (try have l1_w_0 : w.heap.size < w1.heap.size := by omega)
  (try (have kq := cellAt hb1 (w.heap.size + 1) (by go_size); have k1_w_1_0 := kq 0; have k1_w_1_1 := kq 1; have k1_w_1_2 := kq 2; clear kq; have f1_w_1 := frozAt hb1 (w.heap.size + 1) (by go_size); simp [go_sem, *] at k1_w_1_0 k1_w_1_1 k1_w_1_2 f1_w_1))
  (try have l1_w_1 : w.heap.size + 1 < w1.heap.size := by omega)
  obtain ⟨u1, B1, e1, hu1, -⟩ := hg1_5
  simp only [e1, tupAt0, tupAt1]
  clear e1
  obtain ⟨a1, c1, rfl⟩ := hu1.shape
  have hx1 := hu1
  clear hu1
  have hlz : w.heap.size + 2 ≤ w1.heap.size := by have := hb1.size; simp at this; omega
  go_wp2_with fail
  refine wp_open (n := 10) (by kernel_rfl) (by kernel_rfl) (by kernel_rfl) (by kernel_rfl) ?_
  simp only [List.take_succ_cons, List.take_zero]
  apply wpS_quiet
  · intro γ W hW hp
    have hs := hW.size
    (try simp only [World.size_alloc, World.size_setCell, World.size_drew, World.size_drewN'] at hs)
    try (have kx_w_0_0 := fun x : Over W => (cellAt x.lies (w.heap.size) (by omega) 0).trans (cellAt hW (w.heap.size) (by go_size) 0); simp [go_sem, *] at kx_w_0_0)
    try (have kx_w_0_1 := fun x : Over W => (cellAt x.lies (w.heap.size) (by omega) 1).trans (cellAt hW (w.heap.size) (by go_size) 1); simp [go_sem, *] at kx_w_0_1)
    try (have kx_w_1_0 := fun x : Over W => (cellAt x.lies (w.heap.size + 1) (by omega) 0).trans (cellAt hW (w.heap.size + 1) (by go_size) 0); simp [go_sem, *] at kx_w_1_0)
    try (have kx_w_1_1 := fun x : Over W => (cellAt x.lies (w.heap.size + 1) (by omega) 1).trans (cellAt hW (w.heap.size + 1) (by go_size) 1); simp [go_sem, *] at kx_w_1_1)
    try (have kx_w_1_2 := fun x : Over W => (cellAt x.lies (w.heap.size + 1) (by omega) 2).trans (cellAt hW (w.heap.size + 1) (by go_size) 2); simp [go_sem, *] at kx_w_1_2)
    clear hW hp
    refine ⟨rfl, ?_⟩
    go_big_quiet_op
    first | exact rfl
  · exact locS_const _
  try simp only [Act.put, List.setIfInBounds_toArray, List.set_cons_succ, List.set_cons_zero, Nat.reduceAdd]
  apply wpS_quiet
  · intro γ W hW hp
    refine ⟨rfl, ?_⟩
    go_big_quiet_op
    apply Exists.intro
    refine ⟨fun x => ?_, ?_⟩
    · (first | (go_at_call 5; exact draw_of _ (toCurve_any _ _ _)) | (go_at_call 6; exact draw_of _ (toPoint_any _ _ _ _)))
    exact rfl
  · exact locS_const _
  try simp only [Act.put, List.setIfInBounds_toArray, List.set_cons_succ, List.set_cons_zero, Nat.reduceAdd]
  apply wpS_quiet
  · intro γ W hW hp
    have hs := hW.size
    (try simp only [World.size_alloc, World.size_setCell, World.size_drew, World.size_drewN'] at hs)
    try (have kx_w_0_0 := fun x : Over W => (cellAt x.lies (w.heap.size) (by omega) 0).trans (cellAt hW (w.heap.size) (by go_size) 0); simp [go_sem, *] at kx_w_0_0)
    try (have kx_w_0_1 := fun x : Over W => (cellAt x.lies (w.heap.size) (by omega) 1).trans (cellAt hW (w.heap.size) (by go_size) 1); simp [go_sem, *] at kx_w_0_1)
    try (have kx_w_1_0 := fun x : Over W => (cellAt x.lies (w.heap.size + 1) (by omega) 0).trans (cellAt hW (w.heap.size + 1) (by go_size) 0); simp [go_sem, *] at kx_w_1_0)
    try (have kx_w_1_1 := fun x : Over W => (cellAt x.lies (w.heap.size + 1) (by omega) 1).trans (cellAt hW (w.heap.size + 1) (by go_size) 1); simp [go_sem, *] at kx_w_1_1)
    try (have kx_w_1_2 := fun x : Over W => (cellAt x.lies (w.heap.size + 1) (by omega) 2).trans (cellAt hW (w.heap.size + 1) (by go_size) 2); simp [go_sem, *] at kx_w_1_2)
    clear hW hp
    refine ⟨rfl, ?_⟩
    go_big_quiet_op
    first | exact rfl
  · exact locS_const _
  try simp only [Act.put, List.setIfInBounds_toArray, List.set_cons_succ, List.set_cons_zero, Nat.reduceAdd]
  apply wpS_quiet
  · intro γ W hW hp
    refine ⟨rfl, ?_⟩
    go_big_quiet_op
    apply Exists.intro
    refine ⟨fun x => ?_, ?_⟩
    · (first | (go_at_call 5; exact draw_of _ (toCurve_any _ _ _)) | (go_at_call 6; exact draw_of _ (toPoint_any _ _ _ _)))
    exact rfl
  · exact locS_const _
  try simp only [Act.put, List.setIfInBounds_toArray, List.set_cons_succ, List.set_cons_zero, Nat.reduceAdd]
  apply wpS_quiet
  · intro γ W hW hp
    refine ⟨rfl, ?_⟩
    go_big_quiet_op
    first | exact rfl
  · exact locS_const _
  try simp only [Act.put, List.setIfInBounds_toArray, List.set_cons_succ, List.set_cons_zero, Nat.reduceAdd]
  apply wpS_open (openX w1.heap.size n zs ok)
  · intro γ W hW hp
    have kc_w_0 := cellAt hW (w.heap.size) (by go_size)
    try simp [go_sem, *] at kc_w_0
    have kc_w_1 := cellAt hW (w.heap.size + 1) (by go_size)
    try simp [go_sem, *] at kc_w_1
    refine ⟨rfl, ?_⟩
    go_simp
    refine plainNew rfl ?_
    exact open_X (CI _) (by (have := hW.size; (try simp only [World.size_alloc, World.size_setCell, World.size_drew, World.size_drewN'] at this); omega))
  try simp only [Act.put, List.setIfInBounds_toArray, List.set_cons_succ, List.set_cons_zero, Nat.reduceAdd]
  apply wpS_quiet
  · intro γ W hW hp
    have hp_5 := hp _ (List.mem_append_right _ (List.mem_singleton.2 rfl)) (by kernel_rfl)
    dsimp only at hp_5
    refine ⟨rfl, ?_⟩
    go_big_quiet_op
    first | exact rfl
  · intro γ k g hk
    have h_5 : updV γ k g 5 = γ 5 := updV_other γ g (fun e => by subst e; exact absurd hk (by rw [show reachB .any _ 100 6 5 = true from by kernel_rfl]; simp))
    first | rfl | simp only [h_5]
  try simp only [Act.put, List.setIfInBounds_toArray, List.set_cons_succ, List.set_cons_zero, Nat.reduceAdd]
  apply wpS_quiet (v := fun γ => tupAt (γ 5) 0)
  · intro γ W hW hp
    have hp_5 := hp _ (List.mem_append_right _ (List.mem_singleton.2 rfl)) (by kernel_rfl)
    dsimp only at hp_5
    obtain ⟨uA, bA, eA, -⟩ := hp_5
    refine ⟨rfl, ?_⟩
    simp only [eA]
    go_big_quiet_op
    first | exact rfl | simp [tupAt, eA]
  · intro γ k g hk
    have h_5 : updV γ k g 5 = γ 5 := updV_other γ g (fun e => by subst e; exact absurd hk (by rw [show reachB .any _ 100 7 5 = true from by kernel_rfl]; simp))
    simp only [h_5]
  try simp only [Act.put, List.setIfInBounds_toArray, List.set_cons_succ, List.set_cons_zero, Nat.reduceAdd]
  apply wpS_quiet (v := fun γ => tupAt (γ 5) 1)
  · intro γ W hW hp
    have hp_5 := hp _ (List.mem_append_right _ (List.mem_singleton.2 rfl)) (by kernel_rfl)
    dsimp only at hp_5
    obtain ⟨uA, bA, eA, -⟩ := hp_5
    refine ⟨rfl, ?_⟩
    simp only [eA]
    go_big_quiet_op
    first | exact rfl | simp [tupAt, eA]
  · intro γ k g hk
    have h_5 : updV γ k g 5 = γ 5 := updV_other γ g (fun e => by subst e; exact absurd hk (by rw [show reachB .any _ 100 8 5 = true from by kernel_rfl]; simp))
    simp only [h_5]
  try simp only [Act.put, List.setIfInBounds_toArray, List.set_cons_succ, List.set_cons_zero, Nat.reduceAdd]
  apply wpS_quiet
  · intro γ W hW hp
    have hp_5 := hp _ (List.mem_append_right _ (List.mem_singleton.2 rfl)) (by kernel_rfl)
    dsimp only at hp_5
    refine ⟨rfl, ?_⟩
    go_big_quiet_op
    first | exact rfl
  · intro γ k g hk
    have h_5 : updV γ k g 5 = γ 5 := updV_other γ g (fun e => by subst e; exact absurd hk (by rw [show reachB .any _ 100 9 5 = true from by kernel_rfl]; simp))
    first | rfl | simp only [h_5]
  try simp only [Act.put, List.setIfInBounds_toArray, List.set_cons_succ, List.set_cons_zero, Nat.reduceAdd]
  apply wpS_end
  intro γ w2 hb2 hG2 hA2
  have hg2_5 := hG2 _ (List.mem_append_right _ (List.mem_singleton.2 rfl))
  dsimp only at hg2_5
  clear hG2 hA2
  simp only [List.drop_succ_cons, List.drop_zero]
  have hz2 := hb2.size
  (try simp only [World.size_alloc, World.size_setCell, World.size_drew, World.size_drewN'] at hz2)
  (try (have kq := cellAt hb2 (w.heap.size) (by go_size); have k2_w_0_0 := kq 0; have k2_w_0_1 := kq 1; clear kq; have f2_w_0 := frozAt hb2 (w.heap.size) (by go_size); simp [go_sem, *] at k2_w_0_0 k2_w_0_1 f2_w_0))
  (try have l2_w_0 : w.heap.size < w2.heap.size := by omega)
  (try (have kq := cellAt hb2 (w.heap.size + 1) (by go_size); have k2_w_1_0 := kq 0; have k2_w_1_1 := kq 1; have k2_w_1_2 := kq 2; clear kq; have f2_w_1 := frozAt hb2 (w.heap.size + 1) (by go_size); simp [go_sem, *] at k2_w_1_0 k2_w_1_1 k2_w_1_2 f2_w_1))
  (try have l2_w_1 : w.heap.size + 1 < w2.heap.size := by omega)
  (try clear k1_w_0_0 k1_w_0_1 f1_w_0)
  (try clear l1_w_0)
  (try clear k1_w_1_0 k1_w_1_1 k1_w_1_2 f1_w_1)
  (try clear l1_w_1)
  obtain ⟨u2, B2, e2, hu2, hB2⟩ := hg2_5
  simp only [e2, tupAt0, tupAt1]
  clear e2
  have HU2 := Lib.hid hu2
  obtain ⟨a2, c2, rfl⟩ := hu2.shape
  have hx2 := hu2
  clear hu2
  have hbb : (ok != ok) = false := by simp
  have hn0 : decide ((1 : Int) + 3 * (n : Int) < 0) = false := by simp; omega
  have hqq : ((1 : Int) + 3 * (n : Int) != (1 : Int) + 3 * (n : Int)) = false := by simp
  go_wp2_with (first | (first | (have _t := tok3; go_at_call 8; refine (eqPointS_same (hx2.via (by repeat' first | (with_reducible first | apply zRf | assumption | apply zDn | apply zDr | apply zAl | apply zSt | refine zVi (by assumption) ?_ ?_) | go_size)) (hx1.via (by repeat' first | (with_reducible first | apply zRf | assumption | apply zDn | apply zDr | apply zAl | apply zSt | refine zVi (by assumption) ?_ ?_) | go_size)) (by omega)).mono ?_; rintro e w3 ⟨rfl, hb3⟩; clear tok3 _t; have hz3 := hb3.size; (try simp only [World.size_alloc, World.size_setCell, World.size_drew, World.size_drewN'] at hz3); (try (have kq := cellAt hb3 (w.heap.size) (by go_size); have k3_w_0_0 := kq 0; have k3_w_0_1 := kq 1; clear kq; have f3_w_0 := frozAt hb3 (w.heap.size) (by go_size); simp [go_sem, *] at k3_w_0_0 k3_w_0_1 f3_w_0)); (try have l3_w_0 : w.heap.size < w3.heap.size := by omega); (try (have kq := cellAt hb3 (w.heap.size + 1) (by go_size); have k3_w_1_0 := kq 0; have k3_w_1_1 := kq 1; have k3_w_1_2 := kq 2; clear kq; have f3_w_1 := frozAt hb3 (w.heap.size + 1) (by go_size); simp [go_sem, *] at k3_w_1_0 k3_w_1_1 k3_w_1_2 f3_w_1)); (try have l3_w_1 : w.heap.size + 1 < w3.heap.size := by omega); (try clear k1_w_0_0 k1_w_0_1 f1_w_0); (try clear l1_w_0); (try clear k1_w_1_0 k1_w_1_1 k1_w_1_2 f1_w_1); (try clear l1_w_1); (try clear k2_w_0_0 k2_w_0_1 f2_w_0); (try clear l2_w_0); (try clear k2_w_1_0 k2_w_1_1 k2_w_1_2 f2_w_1); (try clear l2_w_1))) | (first | (go_at_call 9; (with_reducible refine ((markPointS_any (HU2.out.via (by repeat' first | (with_reducible first | apply zRf | assumption | apply zDn | apply zDr | apply zAl | apply zSt | refine zVi (by assumption) ?_ ?_) | go_size)) (by omega) (by omega) (by omega))).mono ?_); rintro e w4 ⟨rfl, hmk, hgr⟩)))
  have s2 := hb2.size
  have s3 := hb3.size
  have h13 : Below w1.heap.size w1 w3 := below_via hb3 hb2 s2
  have hB1 : Below w.heap.size w w1 := by
    repeat' first | (with_reducible first | apply zRf | assumption | apply zDn | apply zDr | apply zAl | apply zSt | refine zVi (by assumption) ?_ ?_) | go_size
  have hB3 : Below w.heap.size w w3 := hB1.trans (h13.mono (by omega))
  have hs3 := h13.size
  have hap := hx2.apart
  have hfr : ∀ i, i < w1.heap.size → some i ≠ Value.ownBlock (.slice a2 n c2) := fun i hi h => by
    have := hap i h
    omega
  clear hap
  have hold : ∀ i, i < w1.heap.size → w4.heap[i]? = w3.heap[i]? := fun i hi => hgr.block i (by omega) (hfr i hi)
  have hk4 : ∀ i, i < w1.heap.size → w4.heap[i]? = w1.heap[i]? := fun i hi => (hold i hi).trans (h13.block i hi)
  have hx1' := hx1.keep (Nat.le_trans hs3 hgr.size) (fun i hi _ => hk4 i hi)
  have hB4 : Below w.heap.size w w4 := hB3.grown hgr (by omega) (fun k e => by
    rcases Nat.lt_or_ge k w1.heap.size with h | h
    · exact absurd e.symm (hfr k h)
    · omega)
  have hx4 := hmk
  have k4_w_0_0 := (World.cell?_of_block (a := ⟨w.heap.size, 0, none⟩) (hold w.heap.size (by omega))).trans k3_w_0_0
  have k4_w_0_1 := (World.cell?_of_block (a := ⟨w.heap.size, 1, none⟩) (hold w.heap.size (by omega))).trans k3_w_0_1
  have k4_w_1_0 := (World.cell?_of_block (a := ⟨w.heap.size + 1, 0, none⟩) (hold (w.heap.size + 1) (by omega))).trans k3_w_1_0
  have k4_w_1_1 := (World.cell?_of_block (a := ⟨w.heap.size + 1, 1, none⟩) (hold (w.heap.size + 1) (by omega))).trans k3_w_1_1
  have k4_w_1_2 := (World.cell?_of_block (a := ⟨w.heap.size + 1, 2, none⟩) (hold (w.heap.size + 1) (by omega))).trans k3_w_1_2
  have f4_w_0 : ∀ o, w4.frozen? ⟨w.heap.size, o, none⟩ = false := fun o => (World.frozen?_of_block (a := ⟨w.heap.size, o, none⟩) (hold w.heap.size (by omega))).trans (f3_w_0 o)
  have f4_w_1 : ∀ o, w4.frozen? ⟨w.heap.size + 1, o, none⟩ = false := fun o => (World.frozen?_of_block (a := ⟨w.heap.size + 1, o, none⟩) (hold (w.heap.size + 1) (by omega))).trans (f3_w_1 o)
  have hs4 := hB4.size
  have hs14 := Nat.le_trans hs3 hgr.size
  clear hold hk4 hfr hgr hmk h13 hB3 hB1 hx1 hx2 HU2 hb1 hb2 hb3 k3_w_0_0 k3_w_0_1 k3_w_1_0 k3_w_1_1 k3_w_1_2 f3_w_0 f3_w_1
  have hx1 := hx1'
  clear hx1'
  go_wp2_with (first | (have _t := tok5; go_at_call 10; refine (heldPointS_any hx4 (by omega) (by omega) (by omega)).mono ?_; rintro e w5 ⟨rfl, hb5⟩; clear tok5 _t; have hz5 := hb5.size; (try simp only [World.size_alloc, World.size_setCell, World.size_drew, World.size_drewN'] at hz5); (try (have kq := cellAt hb5 (w.heap.size) (by go_size); have k5_w_0_0 := kq 0; have k5_w_0_1 := kq 1; clear kq; have f5_w_0 := frozAt hb5 (w.heap.size) (by go_size); simp [go_sem, *] at k5_w_0_0 k5_w_0_1 f5_w_0)); (try have l5_w_0 : w.heap.size < w5.heap.size := by omega); (try (have kq := cellAt hb5 (w.heap.size + 1) (by go_size); have k5_w_1_0 := kq 0; have k5_w_1_1 := kq 1; have k5_w_1_2 := kq 2; clear kq; have f5_w_1 := frozAt hb5 (w.heap.size + 1) (by go_size); simp [go_sem, *] at k5_w_1_0 k5_w_1_1 k5_w_1_2 f5_w_1)); (try have l5_w_1 : w.heap.size + 1 < w5.heap.size := by omega); (try clear k1_w_0_0 k1_w_0_1 f1_w_0); (try clear l1_w_0); (try clear k1_w_1_0 k1_w_1_1 k1_w_1_2 f1_w_1); (try clear l1_w_1); (try clear k2_w_0_0 k2_w_0_1 f2_w_0); (try clear l2_w_0); (try clear k2_w_1_0 k2_w_1_1 k2_w_1_2 f2_w_1); (try clear l2_w_1); (try clear k3_w_0_0 k3_w_0_1 f3_w_0); (try clear l3_w_0); (try clear k3_w_1_0 k3_w_1_1 k3_w_1_2 f3_w_1); (try clear l3_w_1); (try clear k4_w_0_0 k4_w_0_1 f4_w_0); (try clear l4_w_0); (try clear k4_w_1_0 k4_w_1_1 k4_w_1_2 f4_w_1); (try clear l4_w_1)))
  refine wp_open (n := 10) (by kernel_rfl) (by kernel_rfl) (by kernel_rfl) (by kernel_rfl) ?_
  simp only [List.take_succ_cons, List.take_zero]
  apply wpS_quiet
  · intro γ W hW hp
    have hs := hW.size
    (try simp only [World.size_alloc, World.size_setCell, World.size_drew, World.size_drewN'] at hs)
    try (have kx_w_0_0 := fun x : Over W => (cellAt x.lies (w.heap.size) (by omega) 0).trans (cellAt hW (w.heap.size) (by go_size) 0); simp [go_sem, *] at kx_w_0_0)
    try (have kx_w_0_1 := fun x : Over W => (cellAt x.lies (w.heap.size) (by omega) 1).trans (cellAt hW (w.heap.size) (by go_size) 1); simp [go_sem, *] at kx_w_0_1)
    try (have kx_w_1_0 := fun x : Over W => (cellAt x.lies (w.heap.size + 1) (by omega) 0).trans (cellAt hW (w.heap.size + 1) (by go_size) 0); simp [go_sem, *] at kx_w_1_0)
    try (have kx_w_1_1 := fun x : Over W => (cellAt x.lies (w.heap.size + 1) (by omega) 1).trans (cellAt hW (w.heap.size + 1) (by go_size) 1); simp [go_sem, *] at kx_w_1_1)
    try (have kx_w_1_2 := fun x : Over W => (cellAt x.lies (w.heap.size + 1) (by omega) 2).trans (cellAt hW (w.heap.size + 1) (by go_size) 2); simp [go_sem, *] at kx_w_1_2)
    clear hW hp
    refine ⟨rfl, ?_⟩
    go_big_quiet_op
    first | exact rfl
  · exact locS_const _
  try simp only [Act.put, List.setIfInBounds_toArray, List.set_cons_succ, List.set_cons_zero, Nat.reduceAdd]
  apply wpS_quiet
  · intro γ W hW hp
    refine ⟨rfl, ?_⟩
    go_big_quiet_op
    apply Exists.intro
    refine ⟨fun x => ?_, ?_⟩
    · (first | (go_at_call 5; exact draw_of _ (toCurve_any _ _ _)) | (go_at_call 6; exact draw_of _ (toPoint_any _ _ _ _)))
    exact rfl
  · exact locS_const _
  try simp only [Act.put, List.setIfInBounds_toArray, List.set_cons_succ, List.set_cons_zero, Nat.reduceAdd]
  apply wpS_quiet
  · intro γ W hW hp
    have hs := hW.size
    (try simp only [World.size_alloc, World.size_setCell, World.size_drew, World.size_drewN'] at hs)
    try (have kx_w_0_0 := fun x : Over W => (cellAt x.lies (w.heap.size) (by omega) 0).trans (cellAt hW (w.heap.size) (by go_size) 0); simp [go_sem, *] at kx_w_0_0)
    try (have kx_w_0_1 := fun x : Over W => (cellAt x.lies (w.heap.size) (by omega) 1).trans (cellAt hW (w.heap.size) (by go_size) 1); simp [go_sem, *] at kx_w_0_1)
    try (have kx_w_1_0 := fun x : Over W => (cellAt x.lies (w.heap.size + 1) (by omega) 0).trans (cellAt hW (w.heap.size + 1) (by go_size) 0); simp [go_sem, *] at kx_w_1_0)
    try (have kx_w_1_1 := fun x : Over W => (cellAt x.lies (w.heap.size + 1) (by omega) 1).trans (cellAt hW (w.heap.size + 1) (by go_size) 1); simp [go_sem, *] at kx_w_1_1)
    try (have kx_w_1_2 := fun x : Over W => (cellAt x.lies (w.heap.size + 1) (by omega) 2).trans (cellAt hW (w.heap.size + 1) (by go_size) 2); simp [go_sem, *] at kx_w_1_2)
    clear hW hp
    refine ⟨rfl, ?_⟩
    go_big_quiet_op
    first | exact rfl
  · exact locS_const _
  try simp only [Act.put, List.setIfInBounds_toArray, List.set_cons_succ, List.set_cons_zero, Nat.reduceAdd]
  apply wpS_quiet
  · intro γ W hW hp
    refine ⟨rfl, ?_⟩
    go_big_quiet_op
    apply Exists.intro
    refine ⟨fun x => ?_, ?_⟩
    · (first | (go_at_call 5; exact draw_of _ (toCurve_any _ _ _)) | (go_at_call 6; exact draw_of _ (toPoint_any _ _ _ _)))
    exact rfl
  · exact locS_const _
  try simp only [Act.put, List.setIfInBounds_toArray, List.set_cons_succ, List.set_cons_zero, Nat.reduceAdd]
  apply wpS_quiet
  · intro γ W hW hp
    refine ⟨rfl, ?_⟩
    go_big_quiet_op
    first | exact rfl
  · exact locS_const _
  try simp only [Act.put, List.setIfInBounds_toArray, List.set_cons_succ, List.set_cons_zero, Nat.reduceAdd]
  apply wpS_open (openX w5.heap.size n zs ok)
  · intro γ W hW hp
    have kc_w_0 := cellAt hW (w.heap.size) (by go_size)
    try simp [go_sem, *] at kc_w_0
    have kc_w_1 := cellAt hW (w.heap.size + 1) (by go_size)
    try simp [go_sem, *] at kc_w_1
    refine ⟨rfl, ?_⟩
    go_simp
    refine plainNew rfl ?_
    exact open_X (CI _) (by (have := hW.size; (try simp only [World.size_alloc, World.size_setCell, World.size_drew, World.size_drewN'] at this); omega))
  try simp only [Act.put, List.setIfInBounds_toArray, List.set_cons_succ, List.set_cons_zero, Nat.reduceAdd]
  apply wpS_quiet
  · intro γ W hW hp
    have hp_5 := hp _ (List.mem_append_right _ (List.mem_singleton.2 rfl)) (by kernel_rfl)
    dsimp only at hp_5
    refine ⟨rfl, ?_⟩
    go_big_quiet_op
    first | exact rfl
  · intro γ k g hk
    have h_5 : updV γ k g 5 = γ 5 := updV_other γ g (fun e => by subst e; exact absurd hk (by rw [show reachB .any _ 100 6 5 = true from by kernel_rfl]; simp))
    first | rfl | simp only [h_5]
  try simp only [Act.put, List.setIfInBounds_toArray, List.set_cons_succ, List.set_cons_zero, Nat.reduceAdd]
  apply wpS_quiet (v := fun γ => tupAt (γ 5) 0)
  · intro γ W hW hp
    have hp_5 := hp _ (List.mem_append_right _ (List.mem_singleton.2 rfl)) (by kernel_rfl)
    dsimp only at hp_5
    obtain ⟨uA, bA, eA, -⟩ := hp_5
    refine ⟨rfl, ?_⟩
    simp only [eA]
    go_big_quiet_op
    first | exact rfl | simp [tupAt, eA]
  · intro γ k g hk
    have h_5 : updV γ k g 5 = γ 5 := updV_other γ g (fun e => by subst e; exact absurd hk (by rw [show reachB .any _ 100 7 5 = true from by kernel_rfl]; simp))
    simp only [h_5]
  try simp only [Act.put, List.setIfInBounds_toArray, List.set_cons_succ, List.set_cons_zero, Nat.reduceAdd]
  apply wpS_quiet (v := fun γ => tupAt (γ 5) 1)
  · intro γ W hW hp
    have hp_5 := hp _ (List.mem_append_right _ (List.mem_singleton.2 rfl)) (by kernel_rfl)
    dsimp only at hp_5
    obtain ⟨uA, bA, eA, -⟩ := hp_5
    refine ⟨rfl, ?_⟩
    simp only [eA]
    go_big_quiet_op
    first | exact rfl | simp [tupAt, eA]
  · intro γ k g hk
    have h_5 : updV γ k g 5 = γ 5 := updV_other γ g (fun e => by subst e; exact absurd hk (by rw [show reachB .any _ 100 8 5 = true from by kernel_rfl]; simp))
    simp only [h_5]
  try simp only [Act.put, List.setIfInBounds_toArray, List.set_cons_succ, List.set_cons_zero, Nat.reduceAdd]
  apply wpS_quiet
  · intro γ W hW hp
    have hp_5 := hp _ (List.mem_append_right _ (List.mem_singleton.2 rfl)) (by kernel_rfl)
    dsimp only at hp_5
    refine ⟨rfl, ?_⟩
    go_big_quiet_op
    first | exact rfl
  · intro γ k g hk
    have h_5 : updV γ k g 5 = γ 5 := updV_other γ g (fun e => by subst e; exact absurd hk (by rw [show reachB .any _ 100 9 5 = true from by kernel_rfl]; simp))
    first | rfl | simp only [h_5]
  try simp only [Act.put, List.setIfInBounds_toArray, List.set_cons_succ, List.set_cons_zero, Nat.reduceAdd]
  apply wpS_end
  intro γ w6 hb6 hG6 hA6
  have hg6_5 := hG6 _ (List.mem_append_right _ (List.mem_singleton.2 rfl))
  dsimp only at hg6_5
  clear hG6 hA6
  simp only [List.drop_succ_cons, List.drop_zero]
  have hz6 := hb6.size
  (try simp only [World.size_alloc, World.size_setCell, World.size_drew, World.size_drewN'] at hz6)
  (try (have kq := cellAt hb6 (w.heap.size) (by go_size); have k6_w_0_0 := kq 0; have k6_w_0_1 := kq 1; clear kq; have f6_w_0 := frozAt hb6 (w.heap.size) (by go_size); simp [go_sem, *] at k6_w_0_0 k6_w_0_1 f6_w_0))
  (try have l6_w_0 : w.heap.size < w6.heap.size := by omega)
  (try (have kq := cellAt hb6 (w.heap.size + 1) (by go_size); have k6_w_1_0 := kq 0; have k6_w_1_1 := kq 1; have k6_w_1_2 := kq 2; clear kq; have f6_w_1 := frozAt hb6 (w.heap.size + 1) (by go_size); simp [go_sem, *] at k6_w_1_0 k6_w_1_1 k6_w_1_2 f6_w_1))
  (try have l6_w_1 : w.heap.size + 1 < w6.heap.size := by omega)
  (try clear k2_w_0_0 k2_w_0_1 f2_w_0)
  (try clear l2_w_0)
  (try clear k2_w_1_0 k2_w_1_1 k2_w_1_2 f2_w_1)
  (try clear l2_w_1)
  (try clear k3_w_0_0 k3_w_0_1 f3_w_0)
  (try clear l3_w_0)
  (try clear k3_w_1_0 k3_w_1_1 k3_w_1_2 f3_w_1)
  (try clear l3_w_1)
  (try clear k4_w_0_0 k4_w_0_1 f4_w_0)
  (try clear l4_w_0)
  (try clear k4_w_1_0 k4_w_1_1 k4_w_1_2 f4_w_1)
  (try clear l4_w_1)
  (try clear k5_w_0_0 k5_w_0_1 f5_w_0)
  (try clear l5_w_0)
  (try clear k5_w_1_0 k5_w_1_1 k5_w_1_2 f5_w_1)
  (try clear l5_w_1)
  obtain ⟨u3, B3, e3, hu3, hB3⟩ := hg6_5
  simp only [e3, tupAt0, tupAt1]
  clear e3
  obtain ⟨a3, c3, rfl⟩ := hu3.shape
  have hx3 := hu3
  clear hu3
  go_wp2_with (first | (have _t := tok7; go_at_call 8; refine (eqPointS_same (hx3.via (by repeat' first | (with_reducible first | apply zRf | assumption | apply zDn | apply zDr | apply zAl | apply zSt | refine zVi (by assumption) ?_ ?_) | go_size)) (hx1.via (by repeat' first | (with_reducible first | apply zRf | assumption | apply zDn | apply zDr | apply zAl | apply zSt | refine zVi (by assumption) ?_ ?_) | go_size)) (by omega)).mono ?_; rintro e w7 ⟨rfl, hb7⟩; clear tok7 _t; have hz7 := hb7.size; (try simp only [World.size_alloc, World.size_setCell, World.size_drew, World.size_drewN'] at hz7); (try (have kq := cellAt hb7 (w.heap.size) (by go_size); have k7_w_0_0 := kq 0; have k7_w_0_1 := kq 1; clear kq; have f7_w_0 := frozAt hb7 (w.heap.size) (by go_size); simp [go_sem, *] at k7_w_0_0 k7_w_0_1 f7_w_0)); (try have l7_w_0 : w.heap.size < w7.heap.size := by omega); (try (have kq := cellAt hb7 (w.heap.size + 1) (by go_size); have k7_w_1_0 := kq 0; have k7_w_1_1 := kq 1; have k7_w_1_2 := kq 2; clear kq; have f7_w_1 := frozAt hb7 (w.heap.size + 1) (by go_size); simp [go_sem, *] at k7_w_1_0 k7_w_1_1 k7_w_1_2 f7_w_1)); (try have l7_w_1 : w.heap.size + 1 < w7.heap.size := by omega); (try clear k3_w_0_0 k3_w_0_1 f3_w_0); (try clear l3_w_0); (try clear k3_w_1_0 k3_w_1_1 k3_w_1_2 f3_w_1); (try clear l3_w_1); (try clear k4_w_0_0 k4_w_0_1 f4_w_0); (try clear l4_w_0); (try clear k4_w_1_0 k4_w_1_1 k4_w_1_2 f4_w_1); (try clear l4_w_1); (try clear k5_w_0_0 k5_w_0_1 f5_w_0); (try clear l5_w_0); (try clear k5_w_1_0 k5_w_1_1 k5_w_1_2 f5_w_1); (try clear l5_w_1); (try clear k6_w_0_0 k6_w_0_1 f6_w_0); (try clear l6_w_0); (try clear k6_w_1_0 k6_w_1_1 k6_w_1_2 f6_w_1); (try clear l6_w_1)) | (have _t := tok8; go_at_call 10; refine (heldPointS_any (hx4.via (by repeat' first | (with_reducible first | apply zRf | assumption | apply zDn | apply zDr | apply zAl | apply zSt | refine zVi (by assumption) ?_ ?_) | go_size)) (by omega) (by omega) (by omega)).mono ?_; rintro e w8 ⟨rfl, hb8⟩; clear tok8 _t; have hz8 := hb8.size; (try simp only [World.size_alloc, World.size_setCell, World.size_drew, World.size_drewN'] at hz8); (try (have kq := cellAt hb8 (w.heap.size) (by go_size); have k8_w_0_0 := kq 0; have k8_w_0_1 := kq 1; clear kq; have f8_w_0 := frozAt hb8 (w.heap.size) (by go_size); simp [go_sem, *] at k8_w_0_0 k8_w_0_1 f8_w_0)); (try have l8_w_0 : w.heap.size < w8.heap.size := by omega); (try (have kq := cellAt hb8 (w.heap.size + 1) (by go_size); have k8_w_1_0 := kq 0; have k8_w_1_1 := kq 1; have k8_w_1_2 := kq 2; clear kq; have f8_w_1 := frozAt hb8 (w.heap.size + 1) (by go_size); simp [go_sem, *] at k8_w_1_0 k8_w_1_1 k8_w_1_2 f8_w_1)); (try have l8_w_1 : w.heap.size + 1 < w8.heap.size := by omega); (try clear k4_w_0_0 k4_w_0_1 f4_w_0); (try clear l4_w_0); (try clear k4_w_1_0 k4_w_1_1 k4_w_1_2 f4_w_1); (try clear l4_w_1); (try clear k5_w_0_0 k5_w_0_1 f5_w_0); (try clear l5_w_0); (try clear k5_w_1_0 k5_w_1_1 k5_w_1_2 f5_w_1); (try clear l5_w_1); (try clear k6_w_0_0 k6_w_0_1 f6_w_0); (try clear l6_w_0); (try clear k6_w_1_0 k6_w_1_1 k6_w_1_2 f6_w_1); (try clear l6_w_1); (try clear k7_w_0_0 k7_w_0_1 f7_w_0); (try clear l7_w_0); (try clear k7_w_1_0 k7_w_1_1 k7_w_1_2 f7_w_1); (try clear l7_w_1)))
  go_ret
  refine ⟨rfl, ?_⟩
  repeat' first | (with_reducible first | apply zRf | assumption | apply zDn | apply zDr | apply zAl | apply zSt | refine zVi (by assumption) ?_ ?_) | go_size
end Go.Proofs.Ytndmacieecmapaa
