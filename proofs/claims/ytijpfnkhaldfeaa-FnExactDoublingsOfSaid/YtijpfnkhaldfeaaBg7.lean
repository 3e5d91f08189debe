/- Sums and differences of whole numbers: the reference. -/
import Derived.Test.YtijpfnkhaldfeaaBg6
namespace Go.Proofs.Ytijpfnkhaldfeaa
open Go.RowKit
set_option linter.unusedVariables false
set_option maxHeartbeats 1000000
set_option maxRecDepth 20000
set_option linter.unusedSimpArgs false
attribute [local go_sem] openAt openUpon
theorem val_ab (z : Int) : val (limbs (ab z)) = ab z := limbs_val (ab_nonneg z)
theorem bgAdd_any (b b2 : Bool) (a a2 : Option Addr) (n c n2 c2 : Nat) (x y : Int) (w : World) (hs : Wx w b a n c x) (hs2 : Wx w b2 a2 n2 c2 y) (hl : n ≤ 90000) (hl2 : n2 ≤ 90000) :
    Calls Try.prog 46 #[.agg #[.bool b, .slice a n c], .agg #[.bool b2, .slice a2 n2 c2]] w (NewW w (x + y)) := by
  have TC : ∀ (W : World) (s : Int), Below w.heap.size w W → (s = 1 ∨ s = -1) → (s = -1 → ab y ≤ ab x) → Calls Try.prog 57 #[.slice a n c, .slice a2 n2 c2, .int .i64 s] W (NewD W (ab x + s * ab y) 100001) := fun W s hW h1 h2 => by
    have := bgCombine_any a a2 n c n2 c2 100000 s _ _ W (hs.row.below hW) (hs2.row.below hW) (limbs_dig _) (limbs_dig _) (by omega) (by omega) (by omega) h1 (by rw [val_ab, val_ab]; exact h2)
    rwa [val_ab, val_ab] at this
  have TD : ∀ (W : World) (s : Int), Below w.heap.size w W → (s = 1 ∨ s = -1) → (s = -1 → ab x ≤ ab y) → Calls Try.prog 57 #[.slice a2 n2 c2, .slice a n c, .int .i64 s] W (NewD W (ab y + s * ab x) 100001) := fun W s hW h1 h2 => by
    have := bgCombine_any a2 a n2 c2 n c 100000 s _ _ W (hs2.row.below hW) (hs.row.below hW) (limbs_dig _) (limbs_dig _) (by omega) (by omega) (by omega) h1 (by rw [val_ab, val_ab]; exact h2)
    rwa [val_ab, val_ab] at this
  have T3 : ∀ (W : World), Below w.heap.size w W → Calls Try.prog 58 #[.slice a n c, .slice a2 n2 c2] W fun e w' => e = .returned (.int .i64 (cmpI (ab x) (ab y))) ∧ W = w' := fun W hW => by
    have := bgOrder_any a a2 n c n2 c2 _ _ W (hs.row.below hW) (hs2.row.below hW) (limbs_dig _) (limbs_dig _) (by omega) (by omega)
    rwa [val_ab, val_ab] at this
  have hn := hs.neg
  have hn2 := hs2.neg
  clear hs hs2
  have TM : ∀ (W : World) (b : Bool) (V z : Int) (a : Option Addr) (n c : Nat) (zs : List Int), Sx W a n c zs → Dig zs → val zs = V → n ≤ 100001 → mkW b V = z → Calls Try.prog 47 #[.bool b, .slice a n c] W (NewW W z) := fun W b V z a n c zs h1 h2 h3 h4 h5 => by
    have := bgMake_any b a n c zs W h1 (by omega) h2
    rw [h3, h5] at this
    exact this
  by_cases hsame : b = b2
  · have E1 := Lib.hid (show mkW b (ab x + ab y) = x + y by rw [hn, add_same (by rw [← hn, ← hn2, hsame])])
    subst hsame
    have TC1 : ∀ W, Below w.heap.size w W → Calls Try.prog 57 #[.slice a n c, .slice a2 n2 c2, .int .i64 1] W (NewD W (ab x + ab y) 100001) := fun W hW => by
      have := TC W 1 hW (.inl rfl) (fun e => by omega)
      rw [Int.one_mul] at this
      exact this
    clear hn hn2 TC TD T3
    go_enter Try.func46, Try.ntmps46
    go_wp2_with fail
    refine wp_open (n := 8) (by kernel_rfl) (by kernel_rfl) (by kernel_rfl) (by kernel_rfl) ?_
    simp only [List.take_succ_cons, List.take_zero]
    apply wpS_quiet
    · intro γ W hW hp
      refine ⟨rfl, ?_⟩
      go_big_quiet_op
      first | exact rfl
    · exact locS_const _
    try simp only [Act.put, List.setIfInBounds_toArray, List.set_cons_succ, List.set_cons_zero, Nat.reduceAdd]
    apply wpS_quiet
    · intro γ W hW hp
      have hs := hW.size
      (try simp only [World.size_alloc, World.size_setCell, World.size_drew, World.size_drewN'] at hs)
      try (have kx_w_0_0 := fun x : Over W => (cellAt x.lies (w.heap.size) (by omega) 0).trans (cellAt hW (w.heap.size) (by go_size) 0); simp [go_sem, *] at kx_w_0_0)
      try (have kx_w_0_1 := fun x : Over W => (cellAt x.lies (w.heap.size) (by omega) 1).trans (cellAt hW (w.heap.size) (by go_size) 1); simp [go_sem, *] at kx_w_0_1)
      try (have kx_w_1_0 := fun x : Over W => (cellAt x.lies (w.heap.size + 1) (by omega) 0).trans (cellAt hW (w.heap.size + 1) (by go_size) 0); simp [go_sem, *] at kx_w_1_0)
      try (have kx_w_1_1 := fun x : Over W => (cellAt x.lies (w.heap.size + 1) (by omega) 1).trans (cellAt hW (w.heap.size + 1) (by go_size) 1); simp [go_sem, *] at kx_w_1_1)
      try (have kx_w_2_0 := fun x : Over W => (cellAt x.lies (w.heap.size + 1 + 1) (by omega) 0).trans (cellAt hW (w.heap.size + 1 + 1) (by go_size) 0); simp [go_sem, *] at kx_w_2_0)
      try (have kx_w_2_1 := fun x : Over W => (cellAt x.lies (w.heap.size + 1 + 1) (by omega) 1).trans (cellAt hW (w.heap.size + 1 + 1) (by go_size) 1); simp [go_sem, *] at kx_w_2_1)
      clear hW hp
      refine ⟨rfl, ?_⟩
      go_big_quiet_op
      first | exact rfl
    · exact locS_const _
    try simp only [Act.put, List.setIfInBounds_toArray, List.set_cons_succ, List.set_cons_zero, Nat.reduceAdd]
    apply wpS_quiet
    · intro γ W hW hp
      refine ⟨rfl, ?_⟩
      go_big_quiet_op
      first | exact rfl
    · exact locS_const _
    try simp only [Act.put, List.setIfInBounds_toArray, List.set_cons_succ, List.set_cons_zero, Nat.reduceAdd]
    apply wpS_quiet
    · intro γ W hW hp
      have hs := hW.size
      (try simp only [World.size_alloc, World.size_setCell, World.size_drew, World.size_drewN'] at hs)
      try (have kx_w_0_0 := fun x : Over W => (cellAt x.lies (w.heap.size) (by omega) 0).trans (cellAt hW (w.heap.size) (by go_size) 0); simp [go_sem, *] at kx_w_0_0)
      try (have kx_w_0_1 := fun x : Over W => (cellAt x.lies (w.heap.size) (by omega) 1).trans (cellAt hW (w.heap.size) (by go_size) 1); simp [go_sem, *] at kx_w_0_1)
      try (have kx_w_1_0 := fun x : Over W => (cellAt x.lies (w.heap.size + 1) (by omega) 0).trans (cellAt hW (w.heap.size + 1) (by go_size) 0); simp [go_sem, *] at kx_w_1_0)
      try (have kx_w_1_1 := fun x : Over W => (cellAt x.lies (w.heap.size + 1) (by omega) 1).trans (cellAt hW (w.heap.size + 1) (by go_size) 1); simp [go_sem, *] at kx_w_1_1)
      try (have kx_w_2_0 := fun x : Over W => (cellAt x.lies (w.heap.size + 1 + 1) (by omega) 0).trans (cellAt hW (w.heap.size + 1 + 1) (by go_size) 0); simp [go_sem, *] at kx_w_2_0)
      try (have kx_w_2_1 := fun x : Over W => (cellAt x.lies (w.heap.size + 1 + 1) (by omega) 1).trans (cellAt hW (w.heap.size + 1 + 1) (by go_size) 1); simp [go_sem, *] at kx_w_2_1)
      clear hW hp
      refine ⟨rfl, ?_⟩
      go_big_quiet_op
      first | exact rfl
    · exact locS_const _
    try simp only [Act.put, List.setIfInBounds_toArray, List.set_cons_succ, List.set_cons_zero, Nat.reduceAdd]
    apply wpS_quiet
    · intro γ W hW hp
      refine ⟨rfl, ?_⟩
      go_big_quiet_op
      first | exact rfl
    · exact locS_const _
    try simp only [Act.put, List.setIfInBounds_toArray, List.set_cons_succ, List.set_cons_zero, Nat.reduceAdd]
    apply wpS_quiet
    · intro γ W hW hp
      have hs := hW.size
      (try simp only [World.size_alloc, World.size_setCell, World.size_drew, World.size_drewN'] at hs)
      try (have kx_w_0_0 := fun x : Over W => (cellAt x.lies (w.heap.size) (by omega) 0).trans (cellAt hW (w.heap.size) (by go_size) 0); simp [go_sem, *] at kx_w_0_0)
      try (have kx_w_0_1 := fun x : Over W => (cellAt x.lies (w.heap.size) (by omega) 1).trans (cellAt hW (w.heap.size) (by go_size) 1); simp [go_sem, *] at kx_w_0_1)
      try (have kx_w_1_0 := fun x : Over W => (cellAt x.lies (w.heap.size + 1) (by omega) 0).trans (cellAt hW (w.heap.size + 1) (by go_size) 0); simp [go_sem, *] at kx_w_1_0)
      try (have kx_w_1_1 := fun x : Over W => (cellAt x.lies (w.heap.size + 1) (by omega) 1).trans (cellAt hW (w.heap.size + 1) (by go_size) 1); simp [go_sem, *] at kx_w_1_1)
      try (have kx_w_2_0 := fun x : Over W => (cellAt x.lies (w.heap.size + 1 + 1) (by omega) 0).trans (cellAt hW (w.heap.size + 1 + 1) (by go_size) 0); simp [go_sem, *] at kx_w_2_0)
      try (have kx_w_2_1 := fun x : Over W => (cellAt x.lies (w.heap.size + 1 + 1) (by omega) 1).trans (cellAt hW (w.heap.size + 1 + 1) (by go_size) 1); simp [go_sem, *] at kx_w_2_1)
      clear hW hp
      refine ⟨rfl, ?_⟩
      go_big_quiet_op
      first | exact rfl
    · exact locS_const _
    try simp only [Act.put, List.setIfInBounds_toArray, List.set_cons_succ, List.set_cons_zero, Nat.reduceAdd]
    apply wpS_open (openD (w.heap.size + 3) (ab x + ab y) 100001)
    · intro γ W hW hp
      have kc_w_0 := cellAt hW (w.heap.size) (by go_size)
      try simp [go_sem, *] at kc_w_0
      have kc_w_1 := cellAt hW (w.heap.size + 1) (by go_size)
      try simp [go_sem, *] at kc_w_1
      have kc_w_2 := cellAt hW (w.heap.size + 1 + 1) (by go_size)
      try simp [go_sem, *] at kc_w_2
      refine ⟨rfl, ?_⟩
      go_simp
      refine plainNew rfl ?_
      exact open_D (TC1 _ (below_via hW (by repeat' first | (with_reducible first | apply zRf | assumption | apply zDn | apply zDr | apply zAl | apply zSt | refine zVi (by assumption) ?_ ?_) | go_size) (by go_size))) (by (have := hW.size; (try simp only [World.size_alloc, World.size_setCell, World.size_drew, World.size_drewN'] at this); omega))
    try simp only [Act.put, List.setIfInBounds_toArray, List.set_cons_succ, List.set_cons_zero, Nat.reduceAdd]
    apply wpS_open (openW (w.heap.size + 3) (x + y))
    · intro γ W hW hp
      have hp_6 := hp _ (List.mem_append_right _ (List.mem_singleton.2 rfl)) (by kernel_rfl)
      dsimp only at hp_6
      have kc_w_0 := cellAt hW (w.heap.size) (by go_size)
      try simp [go_sem, *] at kc_w_0
      have kc_w_1 := cellAt hW (w.heap.size + 1) (by go_size)
      try simp [go_sem, *] at kc_w_1
      have kc_w_2 := cellAt hW (w.heap.size + 1 + 1) (by go_size)
      try simp [go_sem, *] at kc_w_2
      refine ⟨rfl, ?_⟩
      go_simp
      refine plainNew rfl ?_
      obtain ⟨a6, n6, c6, zs6, e6, h6, d6, v6, m6, _⟩ := hp_6
      rw [e6]
      exact open_W (TM _ _ _ _ _ _ _ _ h6 d6 v6 m6 E1.out) (by (have := hW.size; (try simp only [World.size_alloc, World.size_setCell, World.size_drew, World.size_drewN'] at this); omega))
    try simp only [Act.put, List.setIfInBounds_toArray, List.set_cons_succ, List.set_cons_zero, Nat.reduceAdd]
    apply wpS_end
    intro γ w1 hb1 hG1 hA1
    have hg1_6 := hG1 _ (List.mem_append_left _ (List.mem_append_right _ (List.mem_singleton.2 rfl)))
    dsimp only at hg1_6
    have hg1_7 := hG1 _ (List.mem_append_right _ (List.mem_singleton.2 rfl))
    dsimp only at hg1_7
    clear hG1 hA1
    simp only [List.drop_succ_cons, List.drop_zero]
    have hz1 := hb1.size
    (try simp only [World.size_alloc, World.size_setCell, World.size_drew, World.size_drewN'] at hz1)
    (try (have kq := cellAt hb1 (w.heap.size) (by go_size); have k1_w_0_0 := kq 0; have k1_w_0_1 := kq 1; clear kq; have f1_w_0 := frozAt hb1 (w.heap.size) (by go_size); simp [go_sem, *] at k1_w_0_0 k1_w_0_1 f1_w_0))
    (try have l1_w_0 : w.heap.size < w1.heap.size := by omega)
    (try (have kq := cellAt hb1 (w.heap.size + 1) (by go_size); have k1_w_1_0 := kq 0; have k1_w_1_1 := kq 1; clear kq; have f1_w_1 := frozAt hb1 (w.heap.size + 1) (by go_size); simp [go_sem, *] at k1_w_1_0 k1_w_1_1 f1_w_1))
    (try have l1_w_1 : w.heap.size + 1 < w1.heap.size := by omega)
    (try (have kq := cellAt hb1 (w.heap.size + 1 + 1) (by go_size); have k1_w_2_0 := kq 0; have k1_w_2_1 := kq 1; clear kq; have f1_w_2 := frozAt hb1 (w.heap.size + 1 + 1) (by go_size); simp [go_sem, *] at k1_w_2_0 k1_w_2_1 f1_w_2))
    (try have l1_w_2 : w.heap.size + 1 + 1 < w1.heap.size := by omega)
    obtain ⟨b7, a7, n7, c7, e7, h7, f7⟩ := hg1_7
    simp only [e7]
    clear e7 hg1_6
    go_wp2_with fail
    refine bodyPost_ret (v := .agg #[.bool b7, .slice a7 n7 c7]) (by simp [results, Try.results46, go_sem, *]) rfl ⟨_, _, _, _, rfl, ⟨h7.neg, ?_⟩, ?_, ?_⟩
    · have hr7 := h7.row
      (repeat' first | exact hr7 | refine Sx.set ?_ ?_ _ _ | refine Sx.alloc ?_ _ | refine Sx.drew ?_ | (intro A e; have := f7 A e; (try simp only [World.size_alloc, World.size_setCell, World.size_drew, World.size_drewN'] at this); omega))
    · (intro A e; have := f7 A e; (try simp only [World.size_alloc, World.size_setCell, World.size_drew, World.size_drewN'] at this); omega)
    repeat' first | (with_reducible first | apply zRf | assumption | apply zDn | apply zDr | apply zAl | apply zSt | refine zVi (by assumption) ?_ ?_) | go_size
  · have hb : (b == b2) = false := by simpa using hsame
    have hne : ngB x ≠ ngB y := by rw [← hn, ← hn2]; exact hsame
    by_cases hge : ab y ≤ ab x
    · have E1 := Lib.hid (show mkW b (ab x - ab y) = x + y by rw [hn, add_other hne hge])
      have TC1 : ∀ W, Below w.heap.size w W → Calls Try.prog 57 #[.slice a n c, .slice a2 n2 c2, .int .i64 (-1)] W (NewD W (ab x - ab y) 100001) := fun W hW => by
        have := TC W (-1) hW (.inr rfl) (fun e => hge)
        rw [show ab x + -1 * ab y = ab x - ab y by omega] at this
        exact this
      have hcm : 0 ≤ cmpI (ab x) (ab y) := by
        unfold cmpI
        split
        · omega
        · split <;> omega
      generalize cmpI (ab x) (ab y) = cm at *
      clear hn hn2 TC TD hne hge hsame
      go_enter Try.func46, Try.ntmps46
      go_wp2_with (first | (go_at_call 58; (with_reducible refine ((T3 _ (by repeat' first | (with_reducible first | apply zRf | assumption | apply zDn | apply zDr | apply zAl | apply zSt | refine zVi (by assumption) ?_ ?_) | go_size))).mono ?_); rintro e w' ⟨rfl, rfl⟩))
      refine wp_open (n := 8) (by kernel_rfl) (by kernel_rfl) (by kernel_rfl) (by kernel_rfl) ?_
      simp only [List.take_succ_cons, List.take_zero]
      apply wpS_quiet
      · intro γ W hW hp
        refine ⟨rfl, ?_⟩
        go_big_quiet_op
        first | exact rfl
      · exact locS_const _
      try simp only [Act.put, List.setIfInBounds_toArray, List.set_cons_succ, List.set_cons_zero, Nat.reduceAdd]
      apply wpS_quiet
      · intro γ W hW hp
        have hs := hW.size
        (try simp only [World.size_alloc, World.size_setCell, World.size_drew, World.size_drewN'] at hs)
        try (have kx_w_0_0 := fun x : Over W => (cellAt x.lies (w.heap.size) (by omega) 0).trans (cellAt hW (w.heap.size) (by go_size) 0); simp [go_sem, *] at kx_w_0_0)
        try (have kx_w_0_1 := fun x : Over W => (cellAt x.lies (w.heap.size) (by omega) 1).trans (cellAt hW (w.heap.size) (by go_size) 1); simp [go_sem, *] at kx_w_0_1)
        try (have kx_w_1_0 := fun x : Over W => (cellAt x.lies (w.heap.size + 1) (by omega) 0).trans (cellAt hW (w.heap.size + 1) (by go_size) 0); simp [go_sem, *] at kx_w_1_0)
        try (have kx_w_1_1 := fun x : Over W => (cellAt x.lies (w.heap.size + 1) (by omega) 1).trans (cellAt hW (w.heap.size + 1) (by go_size) 1); simp [go_sem, *] at kx_w_1_1)
        try (have kx_w_2_0 := fun x : Over W => (cellAt x.lies (w.heap.size + 1 + 1) (by omega) 0).trans (cellAt hW (w.heap.size + 1 + 1) (by go_size) 0); simp [go_sem, *] at kx_w_2_0)
        try (have kx_w_2_1 := fun x : Over W => (cellAt x.lies (w.heap.size + 1 + 1) (by omega) 1).trans (cellAt hW (w.heap.size + 1 + 1) (by go_size) 1); simp [go_sem, *] at kx_w_2_1)
        clear hW hp
        refine ⟨rfl, ?_⟩
        go_big_quiet_op
        first | exact rfl
      · exact locS_const _
      try simp only [Act.put, List.setIfInBounds_toArray, List.set_cons_succ, List.set_cons_zero, Nat.reduceAdd]
      apply wpS_quiet
      · intro γ W hW hp
        refine ⟨rfl, ?_⟩
        go_big_quiet_op
        first | exact rfl
      · exact locS_const _
      try simp only [Act.put, List.setIfInBounds_toArray, List.set_cons_succ, List.set_cons_zero, Nat.reduceAdd]
      apply wpS_quiet
      · intro γ W hW hp
        have hs := hW.size
        (try simp only [World.size_alloc, World.size_setCell, World.size_drew, World.size_drewN'] at hs)
        try (have kx_w_0_0 := fun x : Over W => (cellAt x.lies (w.heap.size) (by omega) 0).trans (cellAt hW (w.heap.size) (by go_size) 0); simp [go_sem, *] at kx_w_0_0)
        try (have kx_w_0_1 := fun x : Over W => (cellAt x.lies (w.heap.size) (by omega) 1).trans (cellAt hW (w.heap.size) (by go_size) 1); simp [go_sem, *] at kx_w_0_1)
        try (have kx_w_1_0 := fun x : Over W => (cellAt x.lies (w.heap.size + 1) (by omega) 0).trans (cellAt hW (w.heap.size + 1) (by go_size) 0); simp [go_sem, *] at kx_w_1_0)
        try (have kx_w_1_1 := fun x : Over W => (cellAt x.lies (w.heap.size + 1) (by omega) 1).trans (cellAt hW (w.heap.size + 1) (by go_size) 1); simp [go_sem, *] at kx_w_1_1)
        try (have kx_w_2_0 := fun x : Over W => (cellAt x.lies (w.heap.size + 1 + 1) (by omega) 0).trans (cellAt hW (w.heap.size + 1 + 1) (by go_size) 0); simp [go_sem, *] at kx_w_2_0)
        try (have kx_w_2_1 := fun x : Over W => (cellAt x.lies (w.heap.size + 1 + 1) (by omega) 1).trans (cellAt hW (w.heap.size + 1 + 1) (by go_size) 1); simp [go_sem, *] at kx_w_2_1)
        clear hW hp
        refine ⟨rfl, ?_⟩
        go_big_quiet_op
        first | exact rfl
      · exact locS_const _
      try simp only [Act.put, List.setIfInBounds_toArray, List.set_cons_succ, List.set_cons_zero, Nat.reduceAdd]
      apply wpS_quiet
      · intro γ W hW hp
        refine ⟨rfl, ?_⟩
        go_big_quiet_op
        first | exact rfl
      · exact locS_const _
      try simp only [Act.put, List.setIfInBounds_toArray, List.set_cons_succ, List.set_cons_zero, Nat.reduceAdd]
      apply wpS_quiet
      · intro γ W hW hp
        have hs := hW.size
        (try simp only [World.size_alloc, World.size_setCell, World.size_drew, World.size_drewN'] at hs)
        try (have kx_w_0_0 := fun x : Over W => (cellAt x.lies (w.heap.size) (by omega) 0).trans (cellAt hW (w.heap.size) (by go_size) 0); simp [go_sem, *] at kx_w_0_0)
        try (have kx_w_0_1 := fun x : Over W => (cellAt x.lies (w.heap.size) (by omega) 1).trans (cellAt hW (w.heap.size) (by go_size) 1); simp [go_sem, *] at kx_w_0_1)
        try (have kx_w_1_0 := fun x : Over W => (cellAt x.lies (w.heap.size + 1) (by omega) 0).trans (cellAt hW (w.heap.size + 1) (by go_size) 0); simp [go_sem, *] at kx_w_1_0)
        try (have kx_w_1_1 := fun x : Over W => (cellAt x.lies (w.heap.size + 1) (by omega) 1).trans (cellAt hW (w.heap.size + 1) (by go_size) 1); simp [go_sem, *] at kx_w_1_1)
        try (have kx_w_2_0 := fun x : Over W => (cellAt x.lies (w.heap.size + 1 + 1) (by omega) 0).trans (cellAt hW (w.heap.size + 1 + 1) (by go_size) 0); simp [go_sem, *] at kx_w_2_0)
        try (have kx_w_2_1 := fun x : Over W => (cellAt x.lies (w.heap.size + 1 + 1) (by omega) 1).trans (cellAt hW (w.heap.size + 1 + 1) (by go_size) 1); simp [go_sem, *] at kx_w_2_1)
        clear hW hp
        refine ⟨rfl, ?_⟩
        go_big_quiet_op
        first | exact rfl
      · exact locS_const _
      try simp only [Act.put, List.setIfInBounds_toArray, List.set_cons_succ, List.set_cons_zero, Nat.reduceAdd]
      apply wpS_open (openD (w.heap.size + 3) (ab x - ab y) 100001)
      · intro γ W hW hp
        have kc_w_0 := cellAt hW (w.heap.size) (by go_size)
        try simp [go_sem, *] at kc_w_0
        have kc_w_1 := cellAt hW (w.heap.size + 1) (by go_size)
        try simp [go_sem, *] at kc_w_1
        have kc_w_2 := cellAt hW (w.heap.size + 1 + 1) (by go_size)
        try simp [go_sem, *] at kc_w_2
        refine ⟨rfl, ?_⟩
        go_simp
        refine plainNew rfl ?_
        exact open_D (TC1 _ (below_via hW (by repeat' first | (with_reducible first | apply zRf | assumption | apply zDn | apply zDr | apply zAl | apply zSt | refine zVi (by assumption) ?_ ?_) | go_size) (by go_size))) (by (have := hW.size; (try simp only [World.size_alloc, World.size_setCell, World.size_drew, World.size_drewN'] at this); omega))
      try simp only [Act.put, List.setIfInBounds_toArray, List.set_cons_succ, List.set_cons_zero, Nat.reduceAdd]
      apply wpS_open (openW (w.heap.size + 3) (x + y))
      · intro γ W hW hp
        have hp_6 := hp _ (List.mem_append_right _ (List.mem_singleton.2 rfl)) (by kernel_rfl)
        dsimp only at hp_6
        have kc_w_0 := cellAt hW (w.heap.size) (by go_size)
        try simp [go_sem, *] at kc_w_0
        have kc_w_1 := cellAt hW (w.heap.size + 1) (by go_size)
        try simp [go_sem, *] at kc_w_1
        have kc_w_2 := cellAt hW (w.heap.size + 1 + 1) (by go_size)
        try simp [go_sem, *] at kc_w_2
        refine ⟨rfl, ?_⟩
        go_simp
        refine plainNew rfl ?_
        obtain ⟨a6, n6, c6, zs6, e6, h6, d6, v6, m6, _⟩ := hp_6
        rw [e6]
        exact open_W (TM _ _ _ _ _ _ _ _ h6 d6 v6 m6 E1.out) (by (have := hW.size; (try simp only [World.size_alloc, World.size_setCell, World.size_drew, World.size_drewN'] at this); omega))
      try simp only [Act.put, List.setIfInBounds_toArray, List.set_cons_succ, List.set_cons_zero, Nat.reduceAdd]
      apply wpS_end
      intro γ w1 hb1 hG1 hA1
      have hg1_6 := hG1 _ (List.mem_append_left _ (List.mem_append_right _ (List.mem_singleton.2 rfl)))
      dsimp only at hg1_6
      have hg1_7 := hG1 _ (List.mem_append_right _ (List.mem_singleton.2 rfl))
      dsimp only at hg1_7
      clear hG1 hA1
      simp only [List.drop_succ_cons, List.drop_zero]
      have hz1 := hb1.size
      (try simp only [World.size_alloc, World.size_setCell, World.size_drew, World.size_drewN'] at hz1)
      (try (have kq := cellAt hb1 (w.heap.size) (by go_size); have k1_w_0_0 := kq 0; have k1_w_0_1 := kq 1; clear kq; have f1_w_0 := frozAt hb1 (w.heap.size) (by go_size); simp [go_sem, *] at k1_w_0_0 k1_w_0_1 f1_w_0))
      (try have l1_w_0 : w.heap.size < w1.heap.size := by omega)
      (try (have kq := cellAt hb1 (w.heap.size + 1) (by go_size); have k1_w_1_0 := kq 0; have k1_w_1_1 := kq 1; clear kq; have f1_w_1 := frozAt hb1 (w.heap.size + 1) (by go_size); simp [go_sem, *] at k1_w_1_0 k1_w_1_1 f1_w_1))
      (try have l1_w_1 : w.heap.size + 1 < w1.heap.size := by omega)
      (try (have kq := cellAt hb1 (w.heap.size + 1 + 1) (by go_size); have k1_w_2_0 := kq 0; have k1_w_2_1 := kq 1; clear kq; have f1_w_2 := frozAt hb1 (w.heap.size + 1 + 1) (by go_size); simp [go_sem, *] at k1_w_2_0 k1_w_2_1 f1_w_2))
      (try have l1_w_2 : w.heap.size + 1 + 1 < w1.heap.size := by omega)
      obtain ⟨b7, a7, n7, c7, e7, h7, f7⟩ := hg1_7
      simp only [e7]
      clear e7 hg1_6
      go_wp2_with fail
      refine bodyPost_ret (v := .agg #[.bool b7, .slice a7 n7 c7]) (by simp [results, Try.results46, go_sem, *]) rfl ⟨_, _, _, _, rfl, ⟨h7.neg, ?_⟩, ?_, ?_⟩
      · have hr7 := h7.row
        (repeat' first | exact hr7 | refine Sx.set ?_ ?_ _ _ | refine Sx.alloc ?_ _ | refine Sx.drew ?_ | (intro A e; have := f7 A e; (try simp only [World.size_alloc, World.size_setCell, World.size_drew, World.size_drewN'] at this); omega))
      · (intro A e; have := f7 A e; (try simp only [World.size_alloc, World.size_setCell, World.size_drew, World.size_drewN'] at this); omega)
      repeat' first | (with_reducible first | apply zRf | assumption | apply zDn | apply zDr | apply zAl | apply zSt | refine zVi (by assumption) ?_ ?_) | go_size
    · have E1 := Lib.hid (show mkW b2 (ab y - ab x) = x + y by rw [hn2, add_other (fun e => hne e.symm) (by omega), Int.add_comm])
      have TC1 : ∀ W, Below w.heap.size w W → Calls Try.prog 57 #[.slice a2 n2 c2, .slice a n c, .int .i64 (-1)] W (NewD W (ab y - ab x) 100001) := fun W hW => by
        have := TD W (-1) hW (.inr rfl) (fun e => by omega)
        rw [show ab y + -1 * ab x = ab y - ab x by omega] at this
        exact this
      have hcm : ¬ 0 ≤ cmpI (ab x) (ab y) := by rw [cmp_lt (by omega)]; omega
      generalize cmpI (ab x) (ab y) = cm at *
      clear hn hn2 TC TD hne hge hsame
      go_enter Try.func46, Try.ntmps46
      go_wp2_with (first | (go_at_call 58; (with_reducible refine ((T3 _ (by repeat' first | (with_reducible first | apply zRf | assumption | apply zDn | apply zDr | apply zAl | apply zSt | refine zVi (by assumption) ?_ ?_) | go_size))).mono ?_); rintro e w' ⟨rfl, rfl⟩))
      refine wp_open (n := 8) (by kernel_rfl) (by kernel_rfl) (by kernel_rfl) (by kernel_rfl) ?_
      simp only [List.take_succ_cons, List.take_zero]
      apply wpS_quiet
      · intro γ W hW hp
        refine ⟨rfl, ?_⟩
        go_big_quiet_op
        first | exact rfl
      · exact locS_const _
      try simp only [Act.put, List.setIfInBounds_toArray, List.set_cons_succ, List.set_cons_zero, Nat.reduceAdd]
      apply wpS_quiet
      · intro γ W hW hp
        have hs := hW.size
        (try simp only [World.size_alloc, World.size_setCell, World.size_drew, World.size_drewN'] at hs)
        try (have kx_w_0_0 := fun x : Over W => (cellAt x.lies (w.heap.size) (by omega) 0).trans (cellAt hW (w.heap.size) (by go_size) 0); simp [go_sem, *] at kx_w_0_0)
        try (have kx_w_0_1 := fun x : Over W => (cellAt x.lies (w.heap.size) (by omega) 1).trans (cellAt hW (w.heap.size) (by go_size) 1); simp [go_sem, *] at kx_w_0_1)
        try (have kx_w_1_0 := fun x : Over W => (cellAt x.lies (w.heap.size + 1) (by omega) 0).trans (cellAt hW (w.heap.size + 1) (by go_size) 0); simp [go_sem, *] at kx_w_1_0)
        try (have kx_w_1_1 := fun x : Over W => (cellAt x.lies (w.heap.size + 1) (by omega) 1).trans (cellAt hW (w.heap.size + 1) (by go_size) 1); simp [go_sem, *] at kx_w_1_1)
        try (have kx_w_2_0 := fun x : Over W => (cellAt x.lies (w.heap.size + 1 + 1) (by omega) 0).trans (cellAt hW (w.heap.size + 1 + 1) (by go_size) 0); simp [go_sem, *] at kx_w_2_0)
        try (have kx_w_2_1 := fun x : Over W => (cellAt x.lies (w.heap.size + 1 + 1) (by omega) 1).trans (cellAt hW (w.heap.size + 1 + 1) (by go_size) 1); simp [go_sem, *] at kx_w_2_1)
        clear hW hp
        refine ⟨rfl, ?_⟩
        go_big_quiet_op
        first | exact rfl
      · exact locS_const _
      try simp only [Act.put, List.setIfInBounds_toArray, List.set_cons_succ, List.set_cons_zero, Nat.reduceAdd]
      apply wpS_quiet
      · intro γ W hW hp
        refine ⟨rfl, ?_⟩
        go_big_quiet_op
        first | exact rfl
      · exact locS_const _
      try simp only [Act.put, List.setIfInBounds_toArray, List.set_cons_succ, List.set_cons_zero, Nat.reduceAdd]
      apply wpS_quiet
      · intro γ W hW hp
        have hs := hW.size
        (try simp only [World.size_alloc, World.size_setCell, World.size_drew, World.size_drewN'] at hs)
        try (have kx_w_0_0 := fun x : Over W => (cellAt x.lies (w.heap.size) (by omega) 0).trans (cellAt hW (w.heap.size) (by go_size) 0); simp [go_sem, *] at kx_w_0_0)
        try (have kx_w_0_1 := fun x : Over W => (cellAt x.lies (w.heap.size) (by omega) 1).trans (cellAt hW (w.heap.size) (by go_size) 1); simp [go_sem, *] at kx_w_0_1)
        try (have kx_w_1_0 := fun x : Over W => (cellAt x.lies (w.heap.size + 1) (by omega) 0).trans (cellAt hW (w.heap.size + 1) (by go_size) 0); simp [go_sem, *] at kx_w_1_0)
        try (have kx_w_1_1 := fun x : Over W => (cellAt x.lies (w.heap.size + 1) (by omega) 1).trans (cellAt hW (w.heap.size + 1) (by go_size) 1); simp [go_sem, *] at kx_w_1_1)
        try (have kx_w_2_0 := fun x : Over W => (cellAt x.lies (w.heap.size + 1 + 1) (by omega) 0).trans (cellAt hW (w.heap.size + 1 + 1) (by go_size) 0); simp [go_sem, *] at kx_w_2_0)
        try (have kx_w_2_1 := fun x : Over W => (cellAt x.lies (w.heap.size + 1 + 1) (by omega) 1).trans (cellAt hW (w.heap.size + 1 + 1) (by go_size) 1); simp [go_sem, *] at kx_w_2_1)
        clear hW hp
        refine ⟨rfl, ?_⟩
        go_big_quiet_op
        first | exact rfl
      · exact locS_const _
      try simp only [Act.put, List.setIfInBounds_toArray, List.set_cons_succ, List.set_cons_zero, Nat.reduceAdd]
      apply wpS_quiet
      · intro γ W hW hp
        refine ⟨rfl, ?_⟩
        go_big_quiet_op
        first | exact rfl
      · exact locS_const _
      try simp only [Act.put, List.setIfInBounds_toArray, List.set_cons_succ, List.set_cons_zero, Nat.reduceAdd]
      apply wpS_quiet
      · intro γ W hW hp
        have hs := hW.size
        (try simp only [World.size_alloc, World.size_setCell, World.size_drew, World.size_drewN'] at hs)
        try (have kx_w_0_0 := fun x : Over W => (cellAt x.lies (w.heap.size) (by omega) 0).trans (cellAt hW (w.heap.size) (by go_size) 0); simp [go_sem, *] at kx_w_0_0)
        try (have kx_w_0_1 := fun x : Over W => (cellAt x.lies (w.heap.size) (by omega) 1).trans (cellAt hW (w.heap.size) (by go_size) 1); simp [go_sem, *] at kx_w_0_1)
        try (have kx_w_1_0 := fun x : Over W => (cellAt x.lies (w.heap.size + 1) (by omega) 0).trans (cellAt hW (w.heap.size + 1) (by go_size) 0); simp [go_sem, *] at kx_w_1_0)
        try (have kx_w_1_1 := fun x : Over W => (cellAt x.lies (w.heap.size + 1) (by omega) 1).trans (cellAt hW (w.heap.size + 1) (by go_size) 1); simp [go_sem, *] at kx_w_1_1)
        try (have kx_w_2_0 := fun x : Over W => (cellAt x.lies (w.heap.size + 1 + 1) (by omega) 0).trans (cellAt hW (w.heap.size + 1 + 1) (by go_size) 0); simp [go_sem, *] at kx_w_2_0)
        try (have kx_w_2_1 := fun x : Over W => (cellAt x.lies (w.heap.size + 1 + 1) (by omega) 1).trans (cellAt hW (w.heap.size + 1 + 1) (by go_size) 1); simp [go_sem, *] at kx_w_2_1)
        clear hW hp
        refine ⟨rfl, ?_⟩
        go_big_quiet_op
        first | exact rfl
      · exact locS_const _
      try simp only [Act.put, List.setIfInBounds_toArray, List.set_cons_succ, List.set_cons_zero, Nat.reduceAdd]
      apply wpS_open (openD (w.heap.size + 3) (ab y - ab x) 100001)
      · intro γ W hW hp
        have kc_w_0 := cellAt hW (w.heap.size) (by go_size)
        try simp [go_sem, *] at kc_w_0
        have kc_w_1 := cellAt hW (w.heap.size + 1) (by go_size)
        try simp [go_sem, *] at kc_w_1
        have kc_w_2 := cellAt hW (w.heap.size + 1 + 1) (by go_size)
        try simp [go_sem, *] at kc_w_2
        refine ⟨rfl, ?_⟩
        go_simp
        refine plainNew rfl ?_
        exact open_D (TC1 _ (below_via hW (by repeat' first | (with_reducible first | apply zRf | assumption | apply zDn | apply zDr | apply zAl | apply zSt | refine zVi (by assumption) ?_ ?_) | go_size) (by go_size))) (by (have := hW.size; (try simp only [World.size_alloc, World.size_setCell, World.size_drew, World.size_drewN'] at this); omega))
      try simp only [Act.put, List.setIfInBounds_toArray, List.set_cons_succ, List.set_cons_zero, Nat.reduceAdd]
      apply wpS_open (openW (w.heap.size + 3) (x + y))
      · intro γ W hW hp
        have hp_6 := hp _ (List.mem_append_right _ (List.mem_singleton.2 rfl)) (by kernel_rfl)
        dsimp only at hp_6
        have kc_w_0 := cellAt hW (w.heap.size) (by go_size)
        try simp [go_sem, *] at kc_w_0
        have kc_w_1 := cellAt hW (w.heap.size + 1) (by go_size)
        try simp [go_sem, *] at kc_w_1
        have kc_w_2 := cellAt hW (w.heap.size + 1 + 1) (by go_size)
        try simp [go_sem, *] at kc_w_2
        refine ⟨rfl, ?_⟩
        go_simp
        refine plainNew rfl ?_
        obtain ⟨a6, n6, c6, zs6, e6, h6, d6, v6, m6, _⟩ := hp_6
        rw [e6]
        exact open_W (TM _ _ _ _ _ _ _ _ h6 d6 v6 m6 E1.out) (by (have := hW.size; (try simp only [World.size_alloc, World.size_setCell, World.size_drew, World.size_drewN'] at this); omega))
      try simp only [Act.put, List.setIfInBounds_toArray, List.set_cons_succ, List.set_cons_zero, Nat.reduceAdd]
      apply wpS_end
      intro γ w1 hb1 hG1 hA1
      have hg1_6 := hG1 _ (List.mem_append_left _ (List.mem_append_right _ (List.mem_singleton.2 rfl)))
      dsimp only at hg1_6
      have hg1_7 := hG1 _ (List.mem_append_right _ (List.mem_singleton.2 rfl))
      dsimp only at hg1_7
      clear hG1 hA1
      simp only [List.drop_succ_cons, List.drop_zero]
      have hz1 := hb1.size
      (try simp only [World.size_alloc, World.size_setCell, World.size_drew, World.size_drewN'] at hz1)
      (try (have kq := cellAt hb1 (w.heap.size) (by go_size); have k1_w_0_0 := kq 0; have k1_w_0_1 := kq 1; clear kq; have f1_w_0 := frozAt hb1 (w.heap.size) (by go_size); simp [go_sem, *] at k1_w_0_0 k1_w_0_1 f1_w_0))
      (try have l1_w_0 : w.heap.size < w1.heap.size := by omega)
      (try (have kq := cellAt hb1 (w.heap.size + 1) (by go_size); have k1_w_1_0 := kq 0; have k1_w_1_1 := kq 1; clear kq; have f1_w_1 := frozAt hb1 (w.heap.size + 1) (by go_size); simp [go_sem, *] at k1_w_1_0 k1_w_1_1 f1_w_1))
      (try have l1_w_1 : w.heap.size + 1 < w1.heap.size := by omega)
      (try (have kq := cellAt hb1 (w.heap.size + 1 + 1) (by go_size); have k1_w_2_0 := kq 0; have k1_w_2_1 := kq 1; clear kq; have f1_w_2 := frozAt hb1 (w.heap.size + 1 + 1) (by go_size); simp [go_sem, *] at k1_w_2_0 k1_w_2_1 f1_w_2))
      (try have l1_w_2 : w.heap.size + 1 + 1 < w1.heap.size := by omega)
      obtain ⟨b7, a7, n7, c7, e7, h7, f7⟩ := hg1_7
      simp only [e7]
      clear e7 hg1_6
      go_wp2_with fail
      refine bodyPost_ret (v := .agg #[.bool b7, .slice a7 n7 c7]) (by simp [results, Try.results46, go_sem, *]) rfl ⟨_, _, _, _, rfl, ⟨h7.neg, ?_⟩, ?_, ?_⟩
      · have hr7 := h7.row
        (repeat' first | exact hr7 | refine Sx.set ?_ ?_ _ _ | refine Sx.alloc ?_ _ | refine Sx.drew ?_ | (intro A e; have := f7 A e; (try simp only [World.size_alloc, World.size_setCell, World.size_drew, World.size_drewN'] at this); omega))
      · (intro A e; have := f7 A e; (try simp only [World.size_alloc, World.size_setCell, World.size_drew, World.size_drewN'] at this); omega)
      repeat' first | (with_reducible first | apply zRf | assumption | apply zDn | apply zDr | apply zAl | apply zSt | refine zVi (by assumption) ?_ ?_) | go_size
end Go.Proofs.Ytijpfnkhaldfeaa
