/- Lemmas and contracts of functions. No condition. -/
import Derived.Test.YtnkmgpmehkholaaGreatPq22
import Derived.IntWalk
namespace Go.Proofs.YtnkmgpmehkholaaGreat
section
open Go.RowKit
set_option linter.unusedVariables false
set_option maxHeartbeats 1000000
set_option maxRecDepth 20000
set_option linter.unusedSimpArgs false
attribute [local go_sem] openAt openUpon
theorem val_ab (z : Int) : val (limbs (ab z)) = ab z := limbs_val (ab_nonneg z)
theorem bgAdd_any (b b2 : Bool) (a a2 : Option Addr) (n c n2 c2 : Nat) (x y : Int) (w : World) (hs : Wx w b a n c x) (hs2 : Wx w b2 a2 n2 c2 y) (hl : n ≤ 90000) (hl2 : n2 ≤ 90000) :
  Calls Tryz.prog 110 #[.agg #[.bool b, .slice a n c], .agg #[.bool b2, .slice a2 n2 c2]] w (NewW w (x + y)) := by
 have TC : ∀ (W : World) (s : Int), Below w.heap.size w W → (s = 1 ∨ s = -1) → (s = -1 → ab y ≤ ab x) → Calls Tryz.prog 129 #[.slice a n c, .slice a2 n2 c2, .int .i64 s] W (NewD W (ab x + s * ab y) 100001) := fun W s hW h1 h2 => by
  have := bgCombine_any a a2 n c n2 c2 100000 s _ _ W (hs.row.below hW) (hs2.row.below hW) (limbs_dig _) (limbs_dig _) (by omega) (by omega) (by omega) h1 (by rw [val_ab, val_ab]; exact h2)
  rwa [val_ab, val_ab] at this
 have TD : ∀ (W : World) (s : Int), Below w.heap.size w W → (s = 1 ∨ s = -1) → (s = -1 → ab x ≤ ab y) → Calls Tryz.prog 129 #[.slice a2 n2 c2, .slice a n c, .int .i64 s] W (NewD W (ab y + s * ab x) 100001) := fun W s hW h1 h2 => by
  have := bgCombine_any a2 a n2 c2 n c 100000 s _ _ W (hs2.row.below hW) (hs.row.below hW) (limbs_dig _) (limbs_dig _) (by omega) (by omega) (by omega) h1 (by rw [val_ab, val_ab]; exact h2)
  rwa [val_ab, val_ab] at this
 have T3 : ∀ (W : World), Below w.heap.size w W → Calls Tryz.prog 130 #[.slice a n c, .slice a2 n2 c2] W fun e w' => e = .returned (.int .i64 (cmpI (ab x) (ab y))) ∧ W = w' := fun W hW => by
  have := bgOrder_any a a2 n c n2 c2 _ _ W (hs.row.below hW) (hs2.row.below hW) (limbs_dig _) (limbs_dig _) (by omega) (by omega)
  rwa [val_ab, val_ab] at this
 have hn := hs.neg
 have hn2 := hs2.neg
 clear hs hs2
 have TM : ∀ (W : World) (b : Bool) (V z : Int) (a : Option Addr) (n c : Nat) (zs : List Int), Sx W a n c zs → Dig zs → val zs = V → n ≤ 100001 → mkW b V = z → Calls Tryz.prog 118 #[.bool b, .slice a n c] W (NewW W z) := fun W b V z a n c zs h1 h2 h3 h4 h5 => by
  have := bgMake_any b a n c zs W h1 (by omega) h2
  rw [h3, h5] at this
  exact this
 by_cases hsame : b = b2
 ·have E1 := Lib.hid (show mkW b (ab x + ab y) = x + y by rw [hn, add_same (by rw [← hn, ← hn2, hsame])])
  subst hsame
  have TC1 : ∀ W, Below w.heap.size w W → Calls Tryz.prog 129 #[.slice a n c, .slice a2 n2 c2, .int .i64 1] W (NewD W (ab x + ab y) 100001) := fun W hW => by
   have := TC W 1 hW (.inl rfl) (fun e => by omega)
   rw [Int.one_mul] at this
   exact this
  clear hn hn2 TC TD T3
  go_enter Tryz.func110, Tryz.ntmps110
  go_wp2_with fail
  refine wp_open (n := 8) (by kernel_rfl) (by kernel_rfl) (by kernel_rfl) (by kernel_rfl) ?_
  simp only [List.take_succ_cons, List.take_zero]
  apply wpS_quiet
  ·intro γ W hW hp
   refine ⟨rfl, ?_⟩
   go_big_quiet_op
   first | exact rfl
  ·exact locS_const _
  try simp only [Act.put, List.setIfInBounds_toArray, List.set_cons_succ, List.set_cons_zero, Nat.reduceAdd]
  apply wpS_quiet
  ·intro γ W hW hp
   have hs := hW.size
   (try simp only [sA, sB, sC, sD] at hs)
   try (have qc := xcA hW (w.heap.size) 0; simp [go_sem, *] at qc)
   try (have qd := xcA hW (w.heap.size) 1; simp [go_sem, *] at qd)
   try (have qe := xcA hW (w.heap.size + 1) 0; simp [go_sem, *] at qe)
   try (have qf := xcA hW (w.heap.size + 1) 1; simp [go_sem, *] at qf)
   try (have qg := xcA hW (w.heap.size + 1 + 1) 0; simp [go_sem, *] at qg)
   try (have qh := xcA hW (w.heap.size + 1 + 1) 1; simp [go_sem, *] at qh)
   clear hW hp
   refine ⟨rfl, ?_⟩
   go_big_quiet_op
   first | exact rfl
  ·exact locS_const _
  try simp only [Act.put, List.setIfInBounds_toArray, List.set_cons_succ, List.set_cons_zero, Nat.reduceAdd]
  apply wpS_quiet
  ·intro γ W hW hp
   refine ⟨rfl, ?_⟩
   go_big_quiet_op
   first | exact rfl
  ·exact locS_const _
  try simp only [Act.put, List.setIfInBounds_toArray, List.set_cons_succ, List.set_cons_zero, Nat.reduceAdd]
  apply wpS_quiet
  ·intro γ W hW hp
   have hs := hW.size
   (try simp only [sA, sB, sC, sD] at hs)
   try (have qc := xcA hW (w.heap.size) 0; simp [go_sem, *] at qc)
   try (have qd := xcA hW (w.heap.size) 1; simp [go_sem, *] at qd)
   try (have qe := xcA hW (w.heap.size + 1) 0; simp [go_sem, *] at qe)
   try (have qf := xcA hW (w.heap.size + 1) 1; simp [go_sem, *] at qf)
   try (have qg := xcA hW (w.heap.size + 1 + 1) 0; simp [go_sem, *] at qg)
   try (have qh := xcA hW (w.heap.size + 1 + 1) 1; simp [go_sem, *] at qh)
   clear hW hp
   refine ⟨rfl, ?_⟩
   go_big_quiet_op
   first | exact rfl
  ·exact locS_const _
  try simp only [Act.put, List.setIfInBounds_toArray, List.set_cons_succ, List.set_cons_zero, Nat.reduceAdd]
  apply wpS_quiet
  ·intro γ W hW hp
   refine ⟨rfl, ?_⟩
   go_big_quiet_op
   first | exact rfl
  ·exact locS_const _
  try simp only [Act.put, List.setIfInBounds_toArray, List.set_cons_succ, List.set_cons_zero, Nat.reduceAdd]
  apply wpS_quiet
  ·intro γ W hW hp
   have hs := hW.size
   (try simp only [sA, sB, sC, sD] at hs)
   try (have qc := xcA hW (w.heap.size) 0; simp [go_sem, *] at qc)
   try (have qd := xcA hW (w.heap.size) 1; simp [go_sem, *] at qd)
   try (have qe := xcA hW (w.heap.size + 1) 0; simp [go_sem, *] at qe)
   try (have qf := xcA hW (w.heap.size + 1) 1; simp [go_sem, *] at qf)
   try (have qg := xcA hW (w.heap.size + 1 + 1) 0; simp [go_sem, *] at qg)
   try (have qh := xcA hW (w.heap.size + 1 + 1) 1; simp [go_sem, *] at qh)
   clear hW hp
   refine ⟨rfl, ?_⟩
   go_big_quiet_op
   first | exact rfl
  ·exact locS_const _
  try simp only [Act.put, List.setIfInBounds_toArray, List.set_cons_succ, List.set_cons_zero, Nat.reduceAdd]
  apply wpS_open (openD (w.heap.size + 3) (ab x + ab y) 100001)
  ·intro γ W hW hp
   have qi := cellAt hW (w.heap.size) (by go_size)
   try simp [go_sem, *] at qi
   have qj := cellAt hW (w.heap.size + 1) (by go_size)
   try simp [go_sem, *] at qj
   have qk := cellAt hW (w.heap.size + 1 + 1) (by go_size)
   try simp [go_sem, *] at qk
   refine ⟨rfl, ?_⟩
   go_simp
   refine plainNew rfl ?_
   exact open_D (TC1 _ (below_via hW bel (by go_size))) (by (have := hW.size; (try simp only [sA, sB, sC, sD] at this); omega))
  try simp only [Act.put, List.setIfInBounds_toArray, List.set_cons_succ, List.set_cons_zero, Nat.reduceAdd]
  apply wpS_open (openW (w.heap.size + 3) (x + y))
  ·intro γ W hW hp
   have qv := hp _ (mR _) (by kernel_rfl)
   dsimp only at qv
   have qi := cellAt hW (w.heap.size) (by go_size)
   try simp [go_sem, *] at qi
   have qj := cellAt hW (w.heap.size + 1) (by go_size)
   try simp [go_sem, *] at qj
   have qk := cellAt hW (w.heap.size + 1 + 1) (by go_size)
   try simp [go_sem, *] at qk
   refine ⟨rfl, ?_⟩
   go_simp
   refine plainNew rfl ?_
   obtain ⟨a6, n6, c6, zs6, e6, h6, d6, v6, m6, _⟩ := qv
   rw [e6]
   exact open_W (TM _ _ _ _ _ _ _ _ h6 d6 v6 m6 E1.out) (by (have := hW.size; (try simp only [sA, sB, sC, sD] at this); omega))
  try simp only [Act.put, List.setIfInBounds_toArray, List.set_cons_succ, List.set_cons_zero, Nat.reduceAdd]
  apply wpS_end
  intro γ w1 hb1 hG1 hA1
  have qt := hG1 _ (mL _ (mR _))
  dsimp only at qt
  have qu := hG1 _ (mR _)
  dsimp only at qu
  clear hG1 hA1
  simp only [List.drop_succ_cons, List.drop_zero]
  have hz1 := hb1.size
  (try simp only [sA, sB, sC, sD] at hz1)
  (try (obtain ⟨kq, qw⟩ := cfAt hb1 (w.heap.size); have ql := kq 0; have qm := kq 1; clear kq; simp [go_sem, *] at ql qm qw))
  (try have qz : w.heap.size < w1.heap.size := by omega)
  (try (obtain ⟨kq, qx⟩ := cfAt hb1 (w.heap.size + 1); have qn := kq 0; have qo := kq 1; clear kq; simp [go_sem, *] at qn qo qx))
  (try have xc : w.heap.size + 1 < w1.heap.size := by omega)
  (try (obtain ⟨kq, qy⟩ := cfAt hb1 (w.heap.size + 1 + 1); have qq := kq 0; have qr := kq 1; clear kq; simp [go_sem, *] at qq qr qy))
  (try have xd : w.heap.size + 1 + 1 < w1.heap.size := by omega)
  obtain ⟨b7, a7, n7, c7, e7, h7, f7⟩ := qu
  simp only [e7]
  clear e7 qt
  go_wp2_with fail
  refine bodyPost_ret (v := .agg #[.bool b7, .slice a7 n7 c7]) (by simp [results, Tryz.results110, go_sem, *]) rfl ⟨_, _, _, _, rfl, ⟨h7.neg, ?_⟩, ?_, ?_⟩
  ·have hr7 := h7.row
   (repeat' first | exact hr7 | refine Sx.set ?_ ?_ _ _ | refine Sx.alloc ?_ _ | refine Sx.drew ?_ | (intro A e; have := f7 A e; (try simp only [sA, sB, sC, sD] at this); omega))
  ·(intro A e; have := f7 A e; (try simp only [sA, sB, sC, sD] at this); omega)
  exact bel
 ·have hb : (b == b2) = false := by simpa using hsame
  have hne : ngB x ≠ ngB y := by rw [← hn, ← hn2]; exact hsame
  by_cases hge : ab y ≤ ab x
  ·have E1 := Lib.hid (show mkW b (ab x - ab y) = x + y by rw [hn, add_other hne hge])
   have TC1 : ∀ W, Below w.heap.size w W → Calls Tryz.prog 129 #[.slice a n c, .slice a2 n2 c2, .int .i64 (-1)] W (NewD W (ab x - ab y) 100001) := fun W hW => by
    have := TC W (-1) hW (.inr rfl) (fun e => hge)
    rw [show ab x + -1 * ab y = ab x - ab y by omega] at this
    exact this
   have hcm : 0 ≤ cmpI (ab x) (ab y) := by
    unfold cmpI
    split
    ·omega
    ·split <;> omega
   generalize cmpI (ab x) (ab y) = cm at *
   clear hn hn2 TC TD hne hge hsame
   go_enter Tryz.func110, Tryz.ntmps110
   go_wp2_with (first | (go_at_call 130; (with_reducible refine ((T3 _ bel)).mono ?_); rintro e w' ⟨rfl, rfl⟩))
   refine wp_open (n := 8) (by kernel_rfl) (by kernel_rfl) (by kernel_rfl) (by kernel_rfl) ?_
   simp only [List.take_succ_cons, List.take_zero]
   apply wpS_quiet
   ·intro γ W hW hp
    refine ⟨rfl, ?_⟩
    go_big_quiet_op
    first | exact rfl
   ·exact locS_const _
   try simp only [Act.put, List.setIfInBounds_toArray, List.set_cons_succ, List.set_cons_zero, Nat.reduceAdd]
   apply wpS_quiet
   ·intro γ W hW hp
    have hs := hW.size
    (try simp only [sA, sB, sC, sD] at hs)
    try (have qc := xcA hW (w.heap.size) 0; simp [go_sem, *] at qc)
    try (have qd := xcA hW (w.heap.size) 1; simp [go_sem, *] at qd)
    try (have qe := xcA hW (w.heap.size + 1) 0; simp [go_sem, *] at qe)
    try (have qf := xcA hW (w.heap.size + 1) 1; simp [go_sem, *] at qf)
    try (have qg := xcA hW (w.heap.size + 1 + 1) 0; simp [go_sem, *] at qg)
    try (have qh := xcA hW (w.heap.size + 1 + 1) 1; simp [go_sem, *] at qh)
    clear hW hp
    refine ⟨rfl, ?_⟩
    go_big_quiet_op
    first | exact rfl
   ·exact locS_const _
   try simp only [Act.put, List.setIfInBounds_toArray, List.set_cons_succ, List.set_cons_zero, Nat.reduceAdd]
   apply wpS_quiet
   ·intro γ W hW hp
    refine ⟨rfl, ?_⟩
    go_big_quiet_op
    first | exact rfl
   ·exact locS_const _
   try simp only [Act.put, List.setIfInBounds_toArray, List.set_cons_succ, List.set_cons_zero, Nat.reduceAdd]
   apply wpS_quiet
   ·intro γ W hW hp
    have hs := hW.size
    (try simp only [sA, sB, sC, sD] at hs)
    try (have qc := xcA hW (w.heap.size) 0; simp [go_sem, *] at qc)
    try (have qd := xcA hW (w.heap.size) 1; simp [go_sem, *] at qd)
    try (have qe := xcA hW (w.heap.size + 1) 0; simp [go_sem, *] at qe)
    try (have qf := xcA hW (w.heap.size + 1) 1; simp [go_sem, *] at qf)
    try (have qg := xcA hW (w.heap.size + 1 + 1) 0; simp [go_sem, *] at qg)
    try (have qh := xcA hW (w.heap.size + 1 + 1) 1; simp [go_sem, *] at qh)
    clear hW hp
    refine ⟨rfl, ?_⟩
    go_big_quiet_op
    first | exact rfl
   ·exact locS_const _
   try simp only [Act.put, List.setIfInBounds_toArray, List.set_cons_succ, List.set_cons_zero, Nat.reduceAdd]
   apply wpS_quiet
   ·intro γ W hW hp
    refine ⟨rfl, ?_⟩
    go_big_quiet_op
    first | exact rfl
   ·exact locS_const _
   try simp only [Act.put, List.setIfInBounds_toArray, List.set_cons_succ, List.set_cons_zero, Nat.reduceAdd]
   apply wpS_quiet
   ·intro γ W hW hp
    have hs := hW.size
    (try simp only [sA, sB, sC, sD] at hs)
    try (have qc := xcA hW (w.heap.size) 0; simp [go_sem, *] at qc)
    try (have qd := xcA hW (w.heap.size) 1; simp [go_sem, *] at qd)
    try (have qe := xcA hW (w.heap.size + 1) 0; simp [go_sem, *] at qe)
    try (have qf := xcA hW (w.heap.size + 1) 1; simp [go_sem, *] at qf)
    try (have qg := xcA hW (w.heap.size + 1 + 1) 0; simp [go_sem, *] at qg)
    try (have qh := xcA hW (w.heap.size + 1 + 1) 1; simp [go_sem, *] at qh)
    clear hW hp
    refine ⟨rfl, ?_⟩
    go_big_quiet_op
    first | exact rfl
   ·exact locS_const _
   try simp only [Act.put, List.setIfInBounds_toArray, List.set_cons_succ, List.set_cons_zero, Nat.reduceAdd]
   apply wpS_open (openD (w.heap.size + 3) (ab x - ab y) 100001)
   ·intro γ W hW hp
    have qi := cellAt hW (w.heap.size) (by go_size)
    try simp [go_sem, *] at qi
    have qj := cellAt hW (w.heap.size + 1) (by go_size)
    try simp [go_sem, *] at qj
    have qk := cellAt hW (w.heap.size + 1 + 1) (by go_size)
    try simp [go_sem, *] at qk
    refine ⟨rfl, ?_⟩
    go_simp
    refine plainNew rfl ?_
    exact open_D (TC1 _ (below_via hW bel (by go_size))) (by (have := hW.size; (try simp only [sA, sB, sC, sD] at this); omega))
   try simp only [Act.put, List.setIfInBounds_toArray, List.set_cons_succ, List.set_cons_zero, Nat.reduceAdd]
   apply wpS_open (openW (w.heap.size + 3) (x + y))
   ·intro γ W hW hp
    have qv := hp _ (mR _) (by kernel_rfl)
    dsimp only at qv
    have qi := cellAt hW (w.heap.size) (by go_size)
    try simp [go_sem, *] at qi
    have qj := cellAt hW (w.heap.size + 1) (by go_size)
    try simp [go_sem, *] at qj
    have qk := cellAt hW (w.heap.size + 1 + 1) (by go_size)
    try simp [go_sem, *] at qk
    refine ⟨rfl, ?_⟩
    go_simp
    refine plainNew rfl ?_
    obtain ⟨a6, n6, c6, zs6, e6, h6, d6, v6, m6, _⟩ := qv
    rw [e6]
    exact open_W (TM _ _ _ _ _ _ _ _ h6 d6 v6 m6 E1.out) (by (have := hW.size; (try simp only [sA, sB, sC, sD] at this); omega))
   try simp only [Act.put, List.setIfInBounds_toArray, List.set_cons_succ, List.set_cons_zero, Nat.reduceAdd]
   apply wpS_end
   intro γ w1 hb1 hG1 hA1
   have qt := hG1 _ (mL _ (mR _))
   dsimp only at qt
   have qu := hG1 _ (mR _)
   dsimp only at qu
   clear hG1 hA1
   simp only [List.drop_succ_cons, List.drop_zero]
   have hz1 := hb1.size
   (try simp only [sA, sB, sC, sD] at hz1)
   (try (obtain ⟨kq, qw⟩ := cfAt hb1 (w.heap.size); have ql := kq 0; have qm := kq 1; clear kq; simp [go_sem, *] at ql qm qw))
   (try have qz : w.heap.size < w1.heap.size := by omega)
   (try (obtain ⟨kq, qx⟩ := cfAt hb1 (w.heap.size + 1); have qn := kq 0; have qo := kq 1; clear kq; simp [go_sem, *] at qn qo qx))
   (try have xc : w.heap.size + 1 < w1.heap.size := by omega)
   (try (obtain ⟨kq, qy⟩ := cfAt hb1 (w.heap.size + 1 + 1); have qq := kq 0; have qr := kq 1; clear kq; simp [go_sem, *] at qq qr qy))
   (try have xd : w.heap.size + 1 + 1 < w1.heap.size := by omega)
   obtain ⟨b7, a7, n7, c7, e7, h7, f7⟩ := qu
   simp only [e7]
   clear e7 qt
   go_wp2_with fail
   refine bodyPost_ret (v := .agg #[.bool b7, .slice a7 n7 c7]) (by simp [results, Tryz.results110, go_sem, *]) rfl ⟨_, _, _, _, rfl, ⟨h7.neg, ?_⟩, ?_, ?_⟩
   ·have hr7 := h7.row
    (repeat' first | exact hr7 | refine Sx.set ?_ ?_ _ _ | refine Sx.alloc ?_ _ | refine Sx.drew ?_ | (intro A e; have := f7 A e; (try simp only [sA, sB, sC, sD] at this); omega))
   ·(intro A e; have := f7 A e; (try simp only [sA, sB, sC, sD] at this); omega)
   exact bel
  ·have E1 := Lib.hid (show mkW b2 (ab y - ab x) = x + y by rw [hn2, add_other (fun e => hne e.symm) (by omega), Int.add_comm])
   have TC1 : ∀ W, Below w.heap.size w W → Calls Tryz.prog 129 #[.slice a2 n2 c2, .slice a n c, .int .i64 (-1)] W (NewD W (ab y - ab x) 100001) := fun W hW => by
    have := TD W (-1) hW (.inr rfl) (fun e => by omega)
    rw [show ab y + -1 * ab x = ab y - ab x by omega] at this
    exact this
   have hcm : ¬ 0 ≤ cmpI (ab x) (ab y) := by rw [cmp_lt (by omega)]; omega
   generalize cmpI (ab x) (ab y) = cm at *
   clear hn hn2 TC TD hne hge hsame
   go_enter Tryz.func110, Tryz.ntmps110
   go_wp2_with (first | (go_at_call 130; (with_reducible refine ((T3 _ bel)).mono ?_); rintro e w' ⟨rfl, rfl⟩))
   refine wp_open (n := 8) (by kernel_rfl) (by kernel_rfl) (by kernel_rfl) (by kernel_rfl) ?_
   simp only [List.take_succ_cons, List.take_zero]
   apply wpS_quiet
   ·intro γ W hW hp
    refine ⟨rfl, ?_⟩
    go_big_quiet_op
    first | exact rfl
   ·exact locS_const _
   try simp only [Act.put, List.setIfInBounds_toArray, List.set_cons_succ, List.set_cons_zero, Nat.reduceAdd]
   apply wpS_quiet
   ·intro γ W hW hp
    have hs := hW.size
    (try simp only [sA, sB, sC, sD] at hs)
    try (have qc := xcA hW (w.heap.size) 0; simp [go_sem, *] at qc)
    try (have qd := xcA hW (w.heap.size) 1; simp [go_sem, *] at qd)
    try (have qe := xcA hW (w.heap.size + 1) 0; simp [go_sem, *] at qe)
    try (have qf := xcA hW (w.heap.size + 1) 1; simp [go_sem, *] at qf)
    try (have qg := xcA hW (w.heap.size + 1 + 1) 0; simp [go_sem, *] at qg)
    try (have qh := xcA hW (w.heap.size + 1 + 1) 1; simp [go_sem, *] at qh)
    clear hW hp
    refine ⟨rfl, ?_⟩
    go_big_quiet_op
    first | exact rfl
   ·exact locS_const _
   try simp only [Act.put, List.setIfInBounds_toArray, List.set_cons_succ, List.set_cons_zero, Nat.reduceAdd]
   apply wpS_quiet
   ·intro γ W hW hp
    refine ⟨rfl, ?_⟩
    go_big_quiet_op
    first | exact rfl
   ·exact locS_const _
   try simp only [Act.put, List.setIfInBounds_toArray, List.set_cons_succ, List.set_cons_zero, Nat.reduceAdd]
   apply wpS_quiet
   ·intro γ W hW hp
    have hs := hW.size
    (try simp only [sA, sB, sC, sD] at hs)
    try (have qc := xcA hW (w.heap.size) 0; simp [go_sem, *] at qc)
    try (have qd := xcA hW (w.heap.size) 1; simp [go_sem, *] at qd)
    try (have qe := xcA hW (w.heap.size + 1) 0; simp [go_sem, *] at qe)
    try (have qf := xcA hW (w.heap.size + 1) 1; simp [go_sem, *] at qf)
    try (have qg := xcA hW (w.heap.size + 1 + 1) 0; simp [go_sem, *] at qg)
    try (have qh := xcA hW (w.heap.size + 1 + 1) 1; simp [go_sem, *] at qh)
    clear hW hp
    refine ⟨rfl, ?_⟩
    go_big_quiet_op
    first | exact rfl
   ·exact locS_const _
   try simp only [Act.put, List.setIfInBounds_toArray, List.set_cons_succ, List.set_cons_zero, Nat.reduceAdd]
   apply wpS_quiet
   ·intro γ W hW hp
    refine ⟨rfl, ?_⟩
    go_big_quiet_op
    first | exact rfl
   ·exact locS_const _
   try simp only [Act.put, List.setIfInBounds_toArray, List.set_cons_succ, List.set_cons_zero, Nat.reduceAdd]
   apply wpS_quiet
   ·intro γ W hW hp
    have hs := hW.size
    (try simp only [sA, sB, sC, sD] at hs)
    try (have qc := xcA hW (w.heap.size) 0; simp [go_sem, *] at qc)
    try (have qd := xcA hW (w.heap.size) 1; simp [go_sem, *] at qd)
    try (have qe := xcA hW (w.heap.size + 1) 0; simp [go_sem, *] at qe)
    try (have qf := xcA hW (w.heap.size + 1) 1; simp [go_sem, *] at qf)
    try (have qg := xcA hW (w.heap.size + 1 + 1) 0; simp [go_sem, *] at qg)
    try (have qh := xcA hW (w.heap.size + 1 + 1) 1; simp [go_sem, *] at qh)
    clear hW hp
    refine ⟨rfl, ?_⟩
    go_big_quiet_op
    first | exact rfl
   ·exact locS_const _
   try simp only [Act.put, List.setIfInBounds_toArray, List.set_cons_succ, List.set_cons_zero, Nat.reduceAdd]
   apply wpS_open (openD (w.heap.size + 3) (ab y - ab x) 100001)
   ·intro γ W hW hp
    have qi := cellAt hW (w.heap.size) (by go_size)
    try simp [go_sem, *] at qi
    have qj := cellAt hW (w.heap.size + 1) (by go_size)
    try simp [go_sem, *] at qj
    have qk := cellAt hW (w.heap.size + 1 + 1) (by go_size)
    try simp [go_sem, *] at qk
    refine ⟨rfl, ?_⟩
    go_simp
    refine plainNew rfl ?_
    exact open_D (TC1 _ (below_via hW bel (by go_size))) (by (have := hW.size; (try simp only [sA, sB, sC, sD] at this); omega))
   try simp only [Act.put, List.setIfInBounds_toArray, List.set_cons_succ, List.set_cons_zero, Nat.reduceAdd]
   apply wpS_open (openW (w.heap.size + 3) (x + y))
   ·intro γ W hW hp
    have qv := hp _ (mR _) (by kernel_rfl)
    dsimp only at qv
    have qi := cellAt hW (w.heap.size) (by go_size)
    try simp [go_sem, *] at qi
    have qj := cellAt hW (w.heap.size + 1) (by go_size)
    try simp [go_sem, *] at qj
    have qk := cellAt hW (w.heap.size + 1 + 1) (by go_size)
    try simp [go_sem, *] at qk
    refine ⟨rfl, ?_⟩
    go_simp
    refine plainNew rfl ?_
    obtain ⟨a6, n6, c6, zs6, e6, h6, d6, v6, m6, _⟩ := qv
    rw [e6]
    exact open_W (TM _ _ _ _ _ _ _ _ h6 d6 v6 m6 E1.out) (by (have := hW.size; (try simp only [sA, sB, sC, sD] at this); omega))
   try simp only [Act.put, List.setIfInBounds_toArray, List.set_cons_succ, List.set_cons_zero, Nat.reduceAdd]
   apply wpS_end
   intro γ w1 hb1 hG1 hA1
   have qt := hG1 _ (mL _ (mR _))
   dsimp only at qt
   have qu := hG1 _ (mR _)
   dsimp only at qu
   clear hG1 hA1
   simp only [List.drop_succ_cons, List.drop_zero]
   have hz1 := hb1.size
   (try simp only [sA, sB, sC, sD] at hz1)
   (try (obtain ⟨kq, qw⟩ := cfAt hb1 (w.heap.size); have ql := kq 0; have qm := kq 1; clear kq; simp [go_sem, *] at ql qm qw))
   (try have qz : w.heap.size < w1.heap.size := by omega)
   (try (obtain ⟨kq, qx⟩ := cfAt hb1 (w.heap.size + 1); have qn := kq 0; have qo := kq 1; clear kq; simp [go_sem, *] at qn qo qx))
   (try have xc : w.heap.size + 1 < w1.heap.size := by omega)
   (try (obtain ⟨kq, qy⟩ := cfAt hb1 (w.heap.size + 1 + 1); have qq := kq 0; have qr := kq 1; clear kq; simp [go_sem, *] at qq qr qy))
   (try have xd : w.heap.size + 1 + 1 < w1.heap.size := by omega)
   obtain ⟨b7, a7, n7, c7, e7, h7, f7⟩ := qu
   simp only [e7]
   clear e7 qt
   go_wp2_with fail
   refine bodyPost_ret (v := .agg #[.bool b7, .slice a7 n7 c7]) (by simp [results, Tryz.results110, go_sem, *]) rfl ⟨_, _, _, _, rfl, ⟨h7.neg, ?_⟩, ?_, ?_⟩
   ·have hr7 := h7.row
    (repeat' first | exact hr7 | refine Sx.set ?_ ?_ _ _ | refine Sx.alloc ?_ _ | refine Sx.drew ?_ | (intro A e; have := f7 A e; (try simp only [sA, sB, sC, sD] at this); omega))
   ·(intro A e; have := f7 A e; (try simp only [sA, sB, sC, sD] at this); omega)
   exact bel
end
section
open Go.RowKit
set_option linter.unusedVariables false
set_option maxHeartbeats 1000000
set_option maxRecDepth 20000
set_option linter.unusedSimpArgs false
attribute [local go_sem] openAt openUpon
theorem bgSub_any (b b2 : Bool) (a a2 : Option Addr) (n c n2 c2 : Nat) (x y : Int) (w : World) (hs : Wx w b a n c x) (hs2 : Wx w b2 a2 n2 c2 y) (hl : n ≤ 90000) (hl2 : n2 ≤ 90000) :
  Calls Tryz.prog 131 #[.agg #[.bool b, .slice a n c], .agg #[.bool b2, .slice a2 n2 c2]] w (NewW w (x - y)) := by
 have HL2 := Lib.hid hs2.ln
 have TA : ∀ (W : World) (b3 : Bool) (a3 : Option Addr) (n3 c3 : Nat), Wx W b a n c x → Wx W b3 a3 n3 c3 (-y) → Calls Tryz.prog 110 #[.agg #[.bool b, .slice a n c], .agg #[.bool b3, .slice a3 n3 c3]] W (NewW W (x - y)) := fun W b3 a3 n3 c3 h1 h2 => by
  have hn3 := h2.ln
  rw [ln_neg, ← HL2.out] at hn3
  have := bgAdd_any b b3 a a3 n c n3 c3 x (-y) W h1 h2 hl (by omega)
  rw [show x + -y = x - y by omega] at this
  exact this
 go_enter Tryz.func131, Tryz.ntmps131
 go_wp2_with fail
 refine wp_open (n := 4) (by kernel_rfl) (by kernel_rfl) (by kernel_rfl) (by kernel_rfl) ?_
 simp only [List.take_succ_cons, List.take_zero]
 apply wpS_quiet
 ·intro γ W hW hp
  have hs := hW.size
  (try simp only [sA, sB, sC, sD] at hs)
  try (have qc := xcA hW (w.heap.size) 0; simp [go_sem, *] at qc)
  try (have qd := xcA hW (w.heap.size) 1; simp [go_sem, *] at qd)
  try (have qe := xcA hW (w.heap.size + 1) 0; simp [go_sem, *] at qe)
  try (have qf := xcA hW (w.heap.size + 1) 1; simp [go_sem, *] at qf)
  try (have qg := xcA hW (w.heap.size + 1 + 1) 0; simp [go_sem, *] at qg)
  try (have qh := xcA hW (w.heap.size + 1 + 1) 1; simp [go_sem, *] at qh)
  clear hW hp
  refine ⟨rfl, ?_⟩
  go_big_quiet_op
  first | exact rfl
 ·exact locS_const _
 try simp only [Act.put, List.setIfInBounds_toArray, List.set_cons_succ, List.set_cons_zero, Nat.reduceAdd]
 apply wpS_quiet
 ·intro γ W hW hp
  have hs := hW.size
  (try simp only [sA, sB, sC, sD] at hs)
  try (have qc := xcA hW (w.heap.size) 0; simp [go_sem, *] at qc)
  try (have qd := xcA hW (w.heap.size) 1; simp [go_sem, *] at qd)
  try (have qe := xcA hW (w.heap.size + 1) 0; simp [go_sem, *] at qe)
  try (have qf := xcA hW (w.heap.size + 1) 1; simp [go_sem, *] at qf)
  try (have qg := xcA hW (w.heap.size + 1 + 1) 0; simp [go_sem, *] at qg)
  try (have qh := xcA hW (w.heap.size + 1 + 1) 1; simp [go_sem, *] at qh)
  clear hW hp
  refine ⟨rfl, ?_⟩
  go_big_quiet_op
  first | exact rfl
 ·exact locS_const _
 try simp only [Act.put, List.setIfInBounds_toArray, List.set_cons_succ, List.set_cons_zero, Nat.reduceAdd]
 apply wpS_open (openW (w.heap.size + 3) (-y))
 ·intro γ W hW hp
  have qi := cellAt hW (w.heap.size) (by go_size)
  try simp [go_sem, *] at qi
  have qj := cellAt hW (w.heap.size + 1) (by go_size)
  try simp [go_sem, *] at qj
  have qk := cellAt hW (w.heap.size + 1 + 1) (by go_size)
  try simp [go_sem, *] at qk
  refine ⟨rfl, ?_⟩
  go_simp
  refine plainNew rfl ?_
  exact open_W (bgMinus_any b2 a2 n2 c2 y W ((hs2.below bel).below hW) (by omega)) (by (have := hW.size; (try simp only [sA, sB, sC, sD] at this); omega))
 try simp only [Act.put, List.setIfInBounds_toArray, List.set_cons_succ, List.set_cons_zero, Nat.reduceAdd]
 apply wpS_open (openW (w.heap.size + 3) (x - y))
 ·intro γ W hW hp
  have qv := hp _ (mR _) (by kernel_rfl)
  dsimp only at qv
  have qi := cellAt hW (w.heap.size) (by go_size)
  try simp [go_sem, *] at qi
  have qj := cellAt hW (w.heap.size + 1) (by go_size)
  try simp [go_sem, *] at qj
  have qk := cellAt hW (w.heap.size + 1 + 1) (by go_size)
  try simp [go_sem, *] at qk
  refine ⟨rfl, ?_⟩
  go_simp
  refine plainNew rfl ?_
  obtain ⟨b3, a3, n3, c3, e3, h3, _⟩ := qv
  rw [e3]
  exact open_W (TA _ _ _ _ _ ((hs.below bel).below hW) h3) (by (have := hW.size; (try simp only [sA, sB, sC, sD] at this); omega))
 try simp only [Act.put, List.setIfInBounds_toArray, List.set_cons_succ, List.set_cons_zero, Nat.reduceAdd]
 apply wpS_end
 intro γ w1 hb1 hG1 hA1
 have qt := hG1 _ (mL _ (mR _))
 dsimp only at qt
 have qu := hG1 _ (mR _)
 dsimp only at qu
 clear hG1 hA1
 simp only [List.drop_succ_cons, List.drop_zero]
 have hz1 := hb1.size
 (try simp only [sA, sB, sC, sD] at hz1)
 (try (obtain ⟨kq, qw⟩ := cfAt hb1 (w.heap.size); have ql := kq 0; have qm := kq 1; clear kq; simp [go_sem, *] at ql qm qw))
 (try have qz : w.heap.size < w1.heap.size := by omega)
 (try (obtain ⟨kq, qx⟩ := cfAt hb1 (w.heap.size + 1); have qn := kq 0; have qo := kq 1; clear kq; simp [go_sem, *] at qn qo qx))
 (try have xc : w.heap.size + 1 < w1.heap.size := by omega)
 (try (obtain ⟨kq, qy⟩ := cfAt hb1 (w.heap.size + 1 + 1); have qq := kq 0; have qr := kq 1; clear kq; simp [go_sem, *] at qq qr qy))
 (try have xd : w.heap.size + 1 + 1 < w1.heap.size := by omega)
 obtain ⟨b7, a7, n7, c7, e7, h7, f7⟩ := qu
 simp only [e7]
 clear e7 qt
 go_wp2_with fail
 refine bodyPost_ret (v := .agg #[.bool b7, .slice a7 n7 c7]) (by simp [results, Tryz.results131, go_sem, *]) rfl ⟨_, _, _, _, rfl, ⟨h7.neg, ?_⟩, ?_, ?_⟩
 ·have hr7 := h7.row
  (repeat' first | exact hr7 | refine Sx.set ?_ ?_ _ _ | refine Sx.alloc ?_ _ | refine Sx.drew ?_ | (intro A e; have := f7 A e; (try simp only [sA, sB, sC, sD] at this); omega))
 ·(intro A e; have := f7 A e; (try simp only [sA, sB, sC, sD] at this); omega)
 exact bel
def sqB (n : Nat) : Int := (n : Int) * 99980001
def MuRel (W0 : World) (g n n2 : Nat) (zs ys : List Int) (iv : Value) (wr : World) : Prop := ∃ (i : Nat) (qs : List Int), iv = .int .i64 i ∧ i ≤ n ∧ qs.length = n + n2 ∧ val qs = val (zs.take i) * val ys ∧ (∀ j, 0 ≤ qs.getD j 0 ∧ qs.getD j 0 ≤ sqB i) ∧ RowW W0 wr g 3 qs
def MiRel (W0 : World) (g n n2 i : Nat) (V x : Int) (ys : List Int) (kv : Value) (wr : World) : Prop := ∃ (k : Nat) (qs : List Int), kv = .int .i64 k ∧ k ≤ n2 ∧ qs.length = n + n2 ∧ val qs = V + 10000 ^ i * (x * val (ys.take k)) ∧ (∀ j, 0 ≤ qs.getD j 0 ∧ qs.getD j 0 ≤ if j < i + k then sqB (i + 1) else sqB i) ∧ RowW W0 wr g 3 qs
def McRel (W0 : World) (g m : Nat) (V : Int) (cv iv : Value) (wr : World) : Prop := ∃ (i : Nat) (qs : List Int) (c : Int), iv = .int .i64 i ∧ cv = .int .i64 c ∧ i ≤ m ∧ qs.length = m ∧ 0 ≤ c ∧ c ≤ 1000000000 ∧ val qs + 10000 ^ i * c = V ∧ Dig (qs.take i) ∧ (∀ j, 0 ≤ qs.getD j 0 ∧ qs.getD j 0 ≤ 1000000000000) ∧ RowW W0 wr g 3 qs
theorem mi_next {qs : List Int} {x y : Int} {i k : Nat} (hk : i + k < qs.length) (h : ∀ j, 0 ≤ qs.getD j 0 ∧ qs.getD j 0 ≤ if j < i + k then sqB (i + 1) else sqB i) (hx : 0 ≤ x ∧ x ≤ 9999) (hy : 0 ≤ y ∧ y ≤ 9999) :
  ∀ j, 0 ≤ (qs.set (i + k) (qs.getD (i + k) 0 + x * y)).getD j 0 ∧ (qs.set (i + k) (qs.getD (i + k) 0 + x * y)).getD j 0 ≤ if j < i + (k + 1) then sqB (i + 1) else sqB i := by
 intro j
 rw [getD_set _ _ _ _ hk]
 have hm := mul_bd (a := x) (b := y) (A := 9999) (B := 9999) (by omega) (by omega)
 have hm0 := Int.mul_nonneg hx.1 hy.1
 by_cases e : j = i + k
 ·subst e
  rw [if_pos rfl, if_pos (by omega)]
  have h1 := h (i + k)
  rw [if_neg (by omega)] at h1
  unfold sqB at *
  omega
 ·rw [if_neg e]
  have h1 := h j
  refine ⟨h1.1, Int.le_trans h1.2 ?_⟩
  by_cases h2 : j < i + k
  ·rw [if_pos h2, if_pos (by omega)]; exact Int.le_refl _
  ·rw [if_neg h2, if_neg (by omega)]; exact Int.le_refl _
theorem mc_next {qs : List Int} {i : Nat} {r : Int} (hi : i < qs.length) (hd : Dig (qs.take i)) (hr : 0 ≤ r ∧ r ≤ 9999) (h : ∀ j, 0 ≤ qs.getD j 0 ∧ qs.getD j 0 ≤ 1000000000000) :
  Dig ((qs.set i r).take (i + 1)) ∧ ∀ j, 0 ≤ (qs.set i r).getD j 0 ∧ (qs.set i r).getD j 0 ≤ 1000000000000 := by
 refine ⟨?_, fun j => ?_⟩
 ·rw [List.take_succ_eq_append_getElem (by simpa using hi), List.getElem_set_self, List.take_set_of_le (Nat.le_refl _)]
  exact hd.append (Dig.cons hr Dig.nil)
 ·rw [getD_set _ _ _ _ hi]
  split
  ·omega
  ·exact h j
theorem bgMul_any (b b2 : Bool) (a a2 : Option Addr) (n c n2 c2 : Nat) (x y : Int) (w : World) (hs : Wx w b a n c x) (hs2 : Wx w b2 a2 n2 c2 y) (hl : n ≤ 10000) (hl2 : n2 ≤ 10000) :
  Calls Tryz.prog 111 #[.agg #[.bool b, .slice a n c], .agg #[.bool b2, .slice a2 n2 c2]] w (NewW w (x * y)) := by
 obtain ⟨i0, hi, hz0, hz1, hz2⟩ := info_parts infoInt
 have tok1 := trivial
 go_enter Tryz.func111, Tryz.ntmps111
 go_wp2_with (first | (at_make; refine wpList_make_full _ rfl _ _ 78 rfl (w.heap.size + 3) 3 i0 (.int .i64 0) 1 Tryz.underlying78 hi hz0 hz1 .i64 .i64 _ _ (n + n2) rfl rfl rfl rfl (by rw [hz2]; omega) (by unfold maxLen; omega) (by simp) ?_; intro W0 hm0 hg0; have hr0 := RowW.start hm0; have hb0 := made_below (B := w.heap.size) (a := w) bel hg0 (by simp; try omega); have hz0s := hg0.size; have e0 := fun o => World.cell?_of_block (a := ⟨w.heap.size, o, none⟩) (made_at hg0 (by simp; try omega)); have e1 := fun o => World.cell?_of_block (a := ⟨w.heap.size + 1, o, none⟩) (made_at hg0 (by simp; try omega)); have e2 := fun o => World.cell?_of_block (a := ⟨w.heap.size + 1 + 1, o, none⟩) (made_at hg0 (by simp; try omega)); have f2 := fun o => World.frozen?_of_block (a := ⟨w.heap.size + 1 + 1, o, none⟩) (made_at hg0 (by simp; try omega)); have kA := e0 0; have kB := e0 1; have kC := e1 0; have kD := e1 1; have kE := e2 0; have kF := e2 1; clear e0 e1 e2 hm0 hg0; simp [go_sem] at kA kB kC kD kE kF f2; simp only [World.size_alloc] at hr0 hz0s))
 have hnm : n + n2 ≤ maxLen := by unfold maxLen; omega
 have hrow1 := hs.row
 have hrow2 := hs2.row
 have hd := limbs_dig (ab x)
 have hd2 := limbs_dig (ab y)
 have HX := Lib.hid (val_ab x)
 have HY := Lib.hid (val_ab y)
 have HN := Lib.hid hs.neg
 have HN2 := Lib.hid hs2.neg
 have hB1 := hs.row
 clear hs hs2 hB1
 generalize limbs (ab x) = zs at *
 generalize limbs (ab y) = ys at *
 have HL := Lib.hid hrow1.len
 have HL2 := Lib.hid hrow2.len
 have hsz0 := blk_lt' hr0.row
 go_loopw [24] (fun iv wr => MuRel W0 (w.heap.size + 1 + 1 + 1) n n2 zs ys iv wr) (fun iv _ => n - (intOf iv).toNat)
 case atStart => exact ⟨0, List.replicate (n + n2) 0, rfl, by omega, by simp, by simp [val_zeros, val], fun j => by simp [List.getD, List.getElem?_replicate, sqB]; split <;> simp, hr0⟩
 case round =>
  obtain ⟨i, qs, rfl, hi1, hql, hqv, hqb, hrow⟩ := hrel
  have kA1 := (hrow.only.cell (b := w.heap.size) (by omega) 0).trans kA
  have kC1 := (hrow.only.cell (b := w.heap.size + 1) (by omega) 0).trans kC
  have kD1 := (hrow.only.cell (b := w.heap.size + 1) (by omega) 1).trans kD
  have kE1 := (hrow.only.cell (b := w.heap.size + 1 + 1) (by omega) 0).trans kE
  have kF1 := (hrow.only.cell (b := w.heap.size + 1 + 1) (by omega) 1).trans kF
  have fE1 := fun o => (hrow.only.froz (b := w.heap.size + 1 + 1) (by omega) o).trans (f2 o)
  have HQV := Lib.hid hqv
  have HQL := Lib.hid hql
  have HQB := Lib.hid hqb
  clear hqv hql hqb
  by_cases h0 : i < n
  ·obtain ⟨b1, off1, rfl, hb1, hcs⟩ := hrow1.at (by omega)
   have c1 := (hrow.only.cell (b := b1) (by omega) (off1 + i)).trans ((hb0.cell (p := ⟨b1, off1 + i, none⟩) hb1).trans (hcs i h0))
   have hlt : (i : Int) < (n : Int) := by omega
   have dz := hd.getD i
   have HS := Lib.hid (val_take_succ zs i)
   rw [List.getD_eq_getElem?_getD] at dz HS
   clear hcs kC1 fE1 kE1 kF1
   generalize zs[i]?.getD 0 = x1 at *
   go_wp2_with fail
   have HR0 := Lib.hid hrow
   clear c1 kA1 kD1
   obtain ⟨wo, hwo⟩ : ∃ wo : World, wo = wr := ⟨_, rfl⟩
   go_loopw [32] (fun kv wr2 => MiRel W0 (w.heap.size + 1 + 1 + 1) n n2 i (val (zs.take i) * val ys) x1 ys kv wr2) (fun kv _ => n2 - (intOf kv).toNat)
   case atStart => exact ⟨0, qs, rfl, by omega, HQL.out, by rw [HQV.out]; simp [val], fun j => by have := HQB.out j; refine ⟨this.1, Int.le_trans this.2 ?_⟩; split <;> (unfold sqB; omega), HR0.out⟩
   case round =>
    obtain ⟨k, ps, rfl, hk1, hpl, hpv, hpb, hrow3⟩ := hrel
    have HPL := Lib.hid hpl
    have HPV := Lib.hid hpv
    have HPB := Lib.hid hpb
    clear hpl hpv hpb
    by_cases h1 : k < n2
    ·obtain ⟨b2', off2, rfl, hb2, hcs2⟩ := hrow2.at (by omega)
     have c2 := (hrow3.only.cell (b := b2') (by omega) (off2 + k)).trans ((hb0.cell (p := ⟨b2', off2 + k, none⟩) hb2).trans (hcs2 k h1))
     have hlt2 : (k : Int) < (n2 : Int) := by omega
     have dy := hd2.getD k
     have hg1 := hrow3.cell (j := i + k) (by have := HPL.out; omega)
     have hg2 := hrow3.free (i + k)
     have HB := Lib.hid (mi_next (x := x1) (y := ys.getD k 0) (i := i) (k := k) (by have := HPL.out; omega) HPB.out dz dy)
     have HC := Lib.hid (cross_step (sums := ps) (b := ys) (x := x1) (V := val (zs.take i) * val ys) (i := i) (k := k) (by have := HPL.out; omega) HPV.out rfl)
     have hpb2 := HPB.out (i + k)
     rw [if_neg (by omega)] at hpb2
     unfold sqB at hpb2
     rw [List.getD_eq_getElem?_getD] at dy HB HC hpb2
     rw [List.getD_eq_getElem?_getD] at HB HC
     have hxy := mul_bd (a := x1) (b := ys[k]?.getD 0) (A := 9999) (B := 9999) (by omega) (by omega)
     have hxy0 := Int.mul_nonneg dz.1 dy.1
     clear hcs2
     go_wp2_with fail
     go_roundw
     case rel => exact ⟨k + 1, ps.set (i + k) _, by go_num, by omega, by simp [HPL.out], HC.out, HB.out, hrow3.set _ _⟩
     case measure => simp [intOf]; omega
    ·obtain rfl : k = n2 := by omega
     have HE := Lib.hid (val_take_all ys k (by have := HL2.out; omega))
     go_wp2_with fail
     go_roundw
     case rel => exact ⟨i + 1, ps, by go_num, by omega, HPL.out, by rw [HPV.out, HE.out, HS.out]; grind, fun j => by have := HPB.out j; refine ⟨this.1, Int.le_trans this.2 ?_⟩; split <;> (unfold sqB; omega), hrow3⟩
     case measure => simp [intOf]; omega
  ·obtain rfl : i = n := by omega
   have HE := Lib.hid (val_take_all zs i (by have := HL.out; omega))
   have HV : val qs = ab x * ab y := by rw [HQV.out, HE.out, HX.out, HY.out]
   have HVV := Lib.hid HV
   have hab := Int.mul_nonneg (ab_nonneg x) (ab_nonneg y)
   have hlt : ab x * ab y < 10000 ^ (i + n2) := by
    rw [Int.pow_add]
    have h1 := val_lt hd
    have h2 := val_lt hd2
    rw [HL.out, HX.out] at h1
    rw [HL2.out, HY.out] at h2
    exact Int.mul_lt_mul' (Int.le_of_lt h1) h2 (ab_nonneg y) (p4_pos _)
   have HLT := Lib.hid hlt
   have HAB := Lib.hid hab
   clear HV hlt hab
   go_wp2_with fail
   have HR0 := Lib.hid hrow
   clear hrow
   go_loopw [10, 52] (fun cv kv wr2 => McRel W0 (w.heap.size + 1 + 1 + 1) (i + n2) (ab x * ab y) cv kv wr2) (fun _ kv _ => i + n2 - (intOf kv).toNat)
   case atStart => exact ⟨0, qs, 0, rfl, rfl, by omega, HQL.out, by omega, by omega, by rw [HVV.out]; simp, by simp [Dig.nil], fun j => by have := HQB.out j; unfold sqB at this; omega, HR0.out⟩
   case round =>
    obtain ⟨k, ps, cc, rfl, rfl, hk1, hpl, hc0, hc1, hpv, hpd, hpb, hrow3⟩ := hrel
    have HPL := Lib.hid hpl
    have HPV := Lib.hid hpv
    have HPB := Lib.hid hpb
    have HPD := Lib.hid hpd
    clear hpl hpv hpb hpd
    by_cases h1 : k < i + n2
    ·have hg1 := hrow3.cell (j := k) (by have := HPL.out; omega)
     have hg2 := hrow3.free k
     have hlt2 : (k : Int) < ((i + n2 : Nat) : Int) := by omega
     have hpk := HPB.out k
     have HC := Lib.hid (fun (r q : Int) (e : ps.getD k 0 + cc = r + 10000 * q) => carry_step (sums := ps) (V := ab x * ab y) (c := cc) (i := k) (by have := HPL.out; omega) HPV.out rfl e)
     have HM := Lib.hid (fun (r : Int) (hr : 0 ≤ r ∧ r ≤ 9999) => mc_next (qs := ps) (i := k) (by have := HPL.out; omega) HPD.out hr HPB.out)
     rw [List.getD_eq_getElem?_getD] at hpk HC
     generalize ps[k]?.getD 0 = v at *
     go_wp2_with fail
     go_roundw
     case rel => exact ⟨k + 1, ps.set k _, _, by go_num, rfl, by omega, by simp [HPL.out], by omega, by omega, HC.out _ _ (by omega), (HM.out _ (by omega)).1, (HM.out _ (by omega)).2, hrow3.set _ _⟩
     case measure => simp [intOf]; omega
    ·obtain rfl : k = i + n2 := by omega
     have hps : Dig ps := by have := HPD.out; rwa [List.take_of_length_le (by have := HPL.out; omega)] at this
     have HV := Lib.hid (sum_end hps HPL.out HPV.out HAB.out HLT.out)
     have hbw := hrow3.below hb0 (by omega)
     have hsz := hrow3.size
     have T1 : ∀ W, Below wr.heap.size wr W → Calls Tryz.prog 118 #[.bool (!(b == b2)), .slice (some ⟨w.heap.size + 1 + 1 + 1, 0, none⟩) (i + n2) (i + n2)] W (NewW W (x * y)) := fun W hW => by
      have := bgMake_any (!(b == b2)) _ (i + n2) (i + n2) ps W ((hrow3.sx HPL.out hnm).below hW) (by omega) hps
      have e : mkW (!(b == b2)) (val ps) = x * y := by rw [HV.out, HN.out, HN2.out]; exact mul_sign x y
      rw [e] at this
      exact this
     have kA2 := (hrow3.only.cell (b := w.heap.size) (by omega) 0).trans kA
     have kC2 := (hrow3.only.cell (b := w.heap.size + 1) (by omega) 0).trans kC
     have kE2 := (hrow3.only.cell (b := w.heap.size + 1 + 1) (by omega) 0).trans kE
     have kF2 := (hrow3.only.cell (b := w.heap.size + 1 + 1) (by omega) 1).trans kF
     have fE2 := fun o => (hrow3.only.froz (b := w.heap.size + 1 + 1) (by omega) o).trans (f2 o)
     clear hrow3 kA1 kC1 kE1 kF1 fE1 kD1
     go_wp2_with (first | (have _t := tok1; go_at_call 118; (with_reducible refine ((T1 _ bel)).mono ?_); rintro e w1 ⟨b7, a7, n7, c7, rfl, h7, f7, hb1⟩; clear tok1 _t; have hz1 := hb1.size; (try simp only [sA, sB, sC, sD] at hz1); (try (obtain ⟨kq, qi⟩ := cfAt hb1 (w.heap.size); have qc := kq 0; have qd := kq 1; clear kq; simp [go_sem, *] at qc qd qi)); (try have ql : w.heap.size < w1.heap.size := by omega); (try (obtain ⟨kq, qj⟩ := cfAt hb1 (w.heap.size + 1); have qe := kq 0; have qf := kq 1; clear kq; simp [go_sem, *] at qe qf qj)); (try have qm : w.heap.size + 1 < w1.heap.size := by omega); (try (obtain ⟨kq, qk⟩ := cfAt hb1 (w.heap.size + 1 + 1); have qg := kq 0; have qh := kq 1; clear kq; simp [go_sem, *] at qg qh qk)); (try have qn : w.heap.size + 1 + 1 < w1.heap.size := by omega)))
     refine bodyPost_ret (v := .agg #[.bool b7, .slice a7 n7 c7]) (by simp [results, Tryz.results111, go_sem, *]) rfl ⟨_, _, _, _, rfl, ⟨h7.neg, ?_⟩, ?_, ?_⟩
     ·have hr7 := h7.row
      (repeat' first | exact hr7 | refine Sx.set ?_ ?_ _ _ | refine Sx.alloc ?_ _ | refine Sx.drew ?_ | (intro A e; have := f7 A e; (try simp only [sA, sB, sC, sD] at this); omega))
     ·(intro A e; have := f7 A e; (try simp only [sA, sB, sC, sD] at this); omega)
     exact bel
theorem bgTimes_any (b : Bool) (a : Option Addr) (n c : Nat) (x d : Int) (w : World) (hs : Wx w b a n c x) (hl : n ≤ 10000) (h1 : -9223372036854775807 ≤ d) (h2 : d ≤ 9223372036854775807) :
  Calls Tryz.prog 112 #[.agg #[.bool b, .slice a n c], .int .i64 d] w (NewW w (x * d)) := by
 have TA : ∀ (W : World) (b3 : Bool) (a3 : Option Addr) (n3 c3 : Nat), Wx W b a n c x → Wx W b3 a3 n3 c3 d → Calls Tryz.prog 111 #[.agg #[.bool b, .slice a n c], .agg #[.bool b3, .slice a3 n3 c3]] W (NewW W (x * d)) := fun W b3 a3 n3 c3 g1 g2 => by
  have hn3 := g2.ln
  have := ln_small (a := d) (by omega) (by omega)
  exact bgMul_any b b3 a a3 n c n3 c3 x d W g1 g2 hl (by omega)
 go_enter Tryz.func112, Tryz.ntmps112
 go_wp2_with fail
 refine wp_open (n := 4) (by kernel_rfl) (by kernel_rfl) (by kernel_rfl) (by kernel_rfl) ?_
 simp only [List.take_succ_cons, List.take_zero]
 apply wpS_quiet
 ·intro γ W hW hp
  have hs := hW.size
  (try simp only [sA, sB, sC, sD] at hs)
  try (have qe := xcA hW (w.heap.size) 0; simp [go_sem, *] at qe)
  try (have qf := xcA hW (w.heap.size) 1; simp [go_sem, *] at qf)
  try (have qg := xcA hW (w.heap.size + 1) 0; simp [go_sem, *] at qg)
  try (have qh := xcA hW (w.heap.size + 1) 1; simp [go_sem, *] at qh)
  clear hW hp
  refine ⟨rfl, ?_⟩
  go_big_quiet_op
  first | exact rfl
 ·exact locS_const _
 try simp only [Act.put, List.setIfInBounds_toArray, List.set_cons_succ, List.set_cons_zero, Nat.reduceAdd]
 apply wpS_quiet
 ·intro γ W hW hp
  refine ⟨rfl, ?_⟩
  go_big_quiet_op
  first | exact rfl
 ·exact locS_const _
 try simp only [Act.put, List.setIfInBounds_toArray, List.set_cons_succ, List.set_cons_zero, Nat.reduceAdd]
 apply wpS_open (openW (w.heap.size + 2) d)
 ·intro γ W hW hp
  have qc := cellAt hW (w.heap.size) (by go_size)
  try simp [go_sem, *] at qc
  have qd := cellAt hW (w.heap.size + 1) (by go_size)
  try simp [go_sem, *] at qd
  refine ⟨rfl, ?_⟩
  go_simp
  refine plainNew rfl ?_
  exact open_W (bgOf_any d W (by omega) (by omega)) (by (have := hW.size; (try simp only [sA, sB, sC, sD] at this); omega))
 try simp only [Act.put, List.setIfInBounds_toArray, List.set_cons_succ, List.set_cons_zero, Nat.reduceAdd]
 apply wpS_open (openW (w.heap.size + 2) (x * d))
 ·intro γ W hW hp
  have qo := hp _ (mR _) (by kernel_rfl)
  dsimp only at qo
  have qc := cellAt hW (w.heap.size) (by go_size)
  try simp [go_sem, *] at qc
  have qd := cellAt hW (w.heap.size + 1) (by go_size)
  try simp [go_sem, *] at qd
  refine ⟨rfl, ?_⟩
  go_simp
  refine plainNew rfl ?_
  obtain ⟨b3, a3, n3, c3, e3, h3, _⟩ := qo
  rw [e3]
  exact open_W (TA _ _ _ _ _ ((hs.below bel).below hW) h3) (by (have := hW.size; (try simp only [sA, sB, sC, sD] at this); omega))
 try simp only [Act.put, List.setIfInBounds_toArray, List.set_cons_succ, List.set_cons_zero, Nat.reduceAdd]
 apply wpS_end
 intro γ w1 hb1 hG1 hA1
 have qm := hG1 _ (mL _ (mR _))
 dsimp only at qm
 have qn := hG1 _ (mR _)
 dsimp only at qn
 clear hG1 hA1
 simp only [List.drop_succ_cons, List.drop_zero]
 have hz1 := hb1.size
 (try simp only [sA, sB, sC, sD] at hz1)
 (try (obtain ⟨kq, qq⟩ := cfAt hb1 (w.heap.size); have qi := kq 0; have qj := kq 1; clear kq; simp [go_sem, *] at qi qj qq))
 (try have qt : w.heap.size < w1.heap.size := by omega)
 (try (obtain ⟨kq, qr⟩ := cfAt hb1 (w.heap.size + 1); have qk := kq 0; have ql := kq 1; clear kq; simp [go_sem, *] at qk ql qr))
 (try have qu : w.heap.size + 1 < w1.heap.size := by omega)
 obtain ⟨b7, a7, n7, c7, e7, h7, f7⟩ := qn
 simp only [e7]
 clear e7 qm
 go_wp2_with fail
 refine bodyPost_ret (v := .agg #[.bool b7, .slice a7 n7 c7]) (by simp [results, Tryz.results112, go_sem, *]) rfl ⟨_, _, _, _, rfl, ⟨h7.neg, ?_⟩, ?_, ?_⟩
 ·have hr7 := h7.row
  (repeat' first | exact hr7 | refine Sx.set ?_ ?_ _ _ | refine Sx.alloc ?_ _ | refine Sx.drew ?_ | (intro A e; have := f7 A e; (try simp only [sA, sB, sC, sD] at this); omega))
 ·(intro A e; have := f7 A e; (try simp only [sA, sB, sC, sD] at this); omega)
 exact bel
end
section
open Go.RowKit
set_option linter.unusedVariables false
set_option maxHeartbeats 1000000
set_option maxRecDepth 20000
set_option linter.unusedSimpArgs false
attribute [local go_sem] openAt openUpon
theorem afar1 {w : World} {b1 o1 b2 o2 : Nat} {x v : Value} (h : w.cell? ⟨b2, o2, none⟩ = some v) (hne : b1 ≠ b2) : (w.setCell ⟨b1, o1, none⟩ x).cell? ⟨b2, o2, none⟩ = some v := by
 rw [← h]
 exact World.cell?_of_block (a := ⟨b2, o2, none⟩) (Below.heap_setCell w ⟨b1, o1, none⟩ x b2 (fun e => hne e.symm))
theorem afar2 {w : World} {b1 o1 o1' b2 o2 : Nat} {x y v : Value} (h : w.cell? ⟨b2, o2, none⟩ = some v) (hne : b1 ≠ b2) : ((w.setCell ⟨b1, o1, none⟩ x).setCell ⟨b1, o1', none⟩ y).cell? ⟨b2, o2, none⟩ = some v := afar1 (afar1 h hne) hne
theorem bgOver_neg (a : Option Addr) (n c : Nat) (z d : Int) (w : World) (hs : Wx w true a n c z) (hl : n ≤ 9000) (hd : 1 ≤ d) (hd2 : d ≤ 100000000000000) :
  Calls Tryz.prog 116 #[.agg #[.bool true, .slice a n c], .int .i64 d] w (NewQ w z d) := by
 obtain ⟨i0, hi, hz0, hz1, hz2⟩ := info_parts infoInt
 have tok1 := trivial
 have tok2 := trivial
 have tok3 := trivial
 go_enter Tryz.func116, Tryz.ntmps116
 go_wp2_with (first | (at_make; refine wpList_make_full _ rfl _ _ 78 rfl (w.heap.size + 2) 3 i0 (.int .i64 0) 1 Tryz.underlying78 hi hz0 hz1 .i64 .i64 _ _ n rfl rfl rfl rfl (by rw [hz2]; omega) (by unfold maxLen; omega) (by simp) ?_; intro W0 hm0 hg0; have hr0 := RowW.start hm0; have hb0 := made_below (B := w.heap.size) (a := w) bel hg0 (by simp; try omega); have hz0s := hg0.size; have e0 := fun o => World.cell?_of_block (a := ⟨w.heap.size, o, none⟩) (made_at hg0 (by simp; try omega)); have e1 := fun o => World.cell?_of_block (a := ⟨w.heap.size + 1, o, none⟩) (made_at hg0 (by simp; try omega)); have f0 := fun o => World.frozen?_of_block (a := ⟨w.heap.size, o, none⟩) (made_at hg0 (by simp; try omega)); have f1 := fun o => World.frozen?_of_block (a := ⟨w.heap.size + 1, o, none⟩) (made_at hg0 (by simp; try omega)); have kA := e0 0; have kB := e0 1; have kC := e1 0; have kD := e1 1; clear e0 e1 hm0 hg0; simp [go_sem] at kA kB kC kD f0 f1; simp only [World.size_alloc] at hr0 hz0s))
 have hnm : n ≤ maxLen := by unfold maxLen; omega
 have hln := Lib.hid hs.row.len
 have hng := Lib.hid hs.neg.symm
 have hneg : z < 0 := by have := hs.neg; simpa [ngB] using this.symm
 go_loopw [7, 8] (fun rv iv wr => OvRel W0 (w.heap.size + 1 + 1) d (limbs (ab z)) n rv iv wr) (fun _ iv _ => (intOf iv + 1).toNat)
 case atStart => exact ⟨n, 0, List.replicate n 0, rfl, rfl, Nat.le_refl _, by omega, by omega, by simp, Dig.zeros n, by rw [List.drop_eq_nil_of_le (by have := hln.out; omega), List.drop_eq_nil_of_le (by simp)]; simp [val], hr0⟩
 case round =>
  obtain ⟨k, rest, qs, rfl, rfl, hk, hr1, hr2, hqn, hqd, hqv, hrow⟩ := hrel
  have kA1 := (hrow.only.cell (b := w.heap.size) (by omega) 0).trans kA
  have kB1 := (hrow.only.cell (b := w.heap.size) (by omega) 1).trans kB
  have HQ := Lib.hid hqv
  have HL := Lib.hid hqn
  by_cases h0 : 0 < k
  ·obtain ⟨b, off, rfl, hb, hcs⟩ := hs.row.at (by omega)
   have hcell := (hrow.only.cell (b := b) (by omega) (off + (k - 1))).trans ((hb0.cell (p := ⟨b, off + (k - 1), none⟩) hb).trans (hcs (k - 1) (by omega)))
   have hdz := (limbs_dig (ab z)).getD (k - 1)
   have hg1 := hrow.cell (j := k - 1) (by omega)
   have hg2 := hrow.free (k - 1)
   have HS := Lib.hid (fun (y x : Int) (e : rest * 10000 + (limbs (ab z)).getD (k - 1) 0 = d * y + x) => div_step (a := limbs (ab z)) (q := qs) (n := d) (rest := rest) (x := x) (y := y) (i := k - 1) (by have := hln.out; omega) (by have := hln.out; have := HL.out; omega) (by rw [show k - 1 + 1 = k by omega]; exact HQ.out) e)
   rw [List.getD_eq_getElem?_getD] at hdz HS
   have hdd := div_digit hd ⟨hr1, hr2⟩ hdz
   have hmm := Int.emod_nonneg (rest * 10000 + (limbs (ab z))[k - 1]?.getD 0) (b := d) (by omega)
   have hml := Int.emod_lt_of_pos (rest * 10000 + (limbs (ab z))[k - 1]?.getD 0) (b := d) (by omega)
   have HE := Lib.hid (show rest * 10000 + (limbs (ab z))[k - 1]?.getD 0 = d * ((rest * 10000 + (limbs (ab z))[k - 1]?.getD 0) / d) + (rest * 10000 + (limbs (ab z))[k - 1]?.getD 0) % d by have := Int.emod_add_mul_ediv (rest * 10000 + (limbs (ab z))[k - 1]?.getD 0) d; omega)
   clear hcs hqv hqn
   go_wp2_with fail
   go_roundw
   case rel => exact ⟨k - 1, _, qs.set (k - 1) _, rfl, by congr 1; omega, by omega, hmm, hml, by simp [HL.out], hqd.set _ hdd, HS.out _ _ HE.out, hrow.set _ _⟩
   case measure => simp [intOf]; omega
  ·obtain rfl : k = 0 := by omega
   have HA := Lib.hid (show ab z = d * val qs + rest by have := HQ.out; rw [List.drop_zero, List.drop_zero, val_ab] at this; exact this)
   have hbw := hrow.below hb0 (by omega)
   have hsz := hrow.size
   have kC1 := (hrow.only.cell (b := w.heap.size + 1) (by omega) 0).trans kC
   have kD1 := (hrow.only.cell (b := w.heap.size + 1) (by omega) 1).trans kD
   have fC1 := fun o => (hrow.only.froz (b := w.heap.size + 1) (by omega) o).trans (f1 o)
   have hlz : val qs < 10000 ^ n := by have := val_lt hqd; rwa [HL.out] at this
   have hlq : ln (mkW true (val qs)) ≤ n := by rw [ln_le, mkW_ab (val_nonneg hqd)]; exact hlz
   have T0 : ∀ W, Below wr.heap.size wr W → Calls Tryz.prog 118 #[.bool true, .slice (some ⟨w.heap.size + 1 + 1, 0, none⟩) n n] W (NewW W (mkW true (val qs))) := fun W hW => bgMake_any true _ n n qs W ((hrow.sx hqn hnm).below hW) (by omega) hqd
   have hqn0 := val_nonneg hqd
   have hngz : ngB z = true := by simp [ngB, hneg]
   by_cases hrest : 0 < rest
   ·have hdn := div_neg (a := z) (n := d) (q := val qs) (r := rest) (by omega) HA.out ⟨hrest, hr2⟩ hneg
    rw [hngz] at hdn
    have HD := Lib.hid hdn
    have TS : ∀ (W : World) (b1 : Bool) (a1 : Option Addr) (n1 c1 : Nat) {b3 : Bool} {a3 : Option Addr} {n3 c3 : Nat}, Wx W b1 a1 n1 c1 (mkW true (val qs)) → Wx W b3 a3 n3 c3 1 → Calls Tryz.prog 131 #[.agg #[.bool b1, .slice a1 n1 c1], .agg #[.bool b3, .slice a3 n3 c3]] W (NewW W (z / d)) := fun W b1 a1 n1 c1 b3 a3 n3 c3 g1 g2 => by
     have := bgSub_any b1 b3 a1 a3 n1 c1 n3 c3 _ 1 W g1 g2 (by have := g1.ln; omega) (by have := g2.ln; have := ln_small (a := 1) (by omega) (by omega); omega)
     rw [show mkW true (val qs) - 1 = z / d by have := HD.out.1; omega] at this
     exact this
    have T1 := T0
    clear hqv hqn hrow hlz hlq hqn0 hdn T0
    generalize mkW true (val qs) = q at *
    go_wp2_with (first | (have _t := tok1; go_at_call 118; (with_reducible refine ((T1 _ bel)).mono ?_); rintro e w1 ⟨b1, a1, n1, c1, rfl, hv1, hf1, hb1⟩; clear tok1 _t; have hz1 := hb1.size; (try simp only [sA, sB, sC, sD] at hz1); (try (obtain ⟨kq, qg⟩ := cfAt hb1 (w.heap.size); have qc := kq 0; have qd := kq 1; clear kq; simp [go_sem, *] at qc qd qg)); (try have qk : w.heap.size < w1.heap.size := by omega); (try (obtain ⟨kq, qh⟩ := cfAt hb1 (w.heap.size + 1); have qe := kq 0; have qf := kq 1; clear kq; simp [go_sem, *] at qe qf qh)); (try have ql : w.heap.size + 1 < w1.heap.size := by omega)))
    go_region_held3 (fun w' => w'.cell? ⟨w1.heap.size, 0, none⟩ = some (.bool b1) ∧ w'.cell? ⟨w1.heap.size, 1, none⟩ = some (.slice a1 n1 c1)) (first | go_keep | exact ⟨afar2 (by assumption) (by omega), afar2 (by assumption) (by omega)⟩) (first | (have _t := tok2; go_at_call 102; (with_reducible refine ((bgOf_any 1 _ (by omega) (by omega))).mono ?_); rintro e w2 ⟨b2, a2, n2, c2, rfl, hv2, hf2, hb2⟩; clear tok2 _t; have hz2 := hb2.size; (try simp only [sA, sB, sC, sD] at hz2); (try (obtain ⟨kq, qt⟩ := cfAt hb2 (w.heap.size); have qm := kq 0; have qn := kq 1; clear kq; simp [go_sem, *] at qm qn qt)); (try have xf : w.heap.size < w2.heap.size := by omega); (try (obtain ⟨kq, qu⟩ := cfAt hb2 (w.heap.size + 1); have qo := kq 0; have qq := kq 1; clear kq; simp [go_sem, *] at qo qq qu)); (try have xg : w.heap.size + 1 < w2.heap.size := by omega); (try (obtain ⟨kq, qr⟩ := cfAt hb2 (w1.heap.size); have qi := kq 0; have qj := kq 1; clear kq; simp [go_sem, *] at qi qj qr)); (try have xd : w1.heap.size < w2.heap.size := by omega); (try clear qc qd qg); (try clear qk); (try clear qe qf qh); (try clear ql)) | (have _t := tok3; go_at_call 131; (with_reducible refine ((TS _ _ _ _ _ (hv1.below bel) hv2)).mono ?_); rintro e w3 ⟨b7, a7, n7, c7, rfl, h7, f7, hb3⟩; clear tok3 _t; have hz3 := hb3.size; (try simp only [sA, sB, sC, sD] at hz3); (try (obtain ⟨kq, xh⟩ := cfAt hb3 (w.heap.size); have qx := kq 0; have qy := kq 1; clear kq; simp [go_sem, *] at qx qy xh)); (try have xk : w.heap.size < w3.heap.size := by omega); (try (obtain ⟨kq, xi⟩ := cfAt hb3 (w.heap.size + 1); have qz := kq 0; have xc := kq 1; clear kq; simp [go_sem, *] at qz xc xi)); (try have xl : w.heap.size + 1 < w3.heap.size := by omega); (try (obtain ⟨kq, xe⟩ := cfAt hb3 (w1.heap.size); have qv := kq 0; have qw := kq 1; clear kq; simp [go_sem, *] at qv qw xe)); (try have xj : w1.heap.size < w3.heap.size := by omega); (try clear qc qd qg); (try clear qk); (try clear qe qf qh); (try clear ql); (try clear qm qn qt); (try clear xf); (try clear qo qq qu); (try clear xg); (try clear qi qj qr); (try clear xd)))
    go_wp2_with fail
    have hwr : IntKind.i64.wrap (d - rest) = d - rest := IntWalk.i64_in _ (by omega)
    refine bodyPost_ret (v := .tuple #[.agg #[.bool b7, .slice a7 n7 c7], .int .i64 (d - rest)]) (by simp [results, Tryz.results116, go_sem, *]) rfl ⟨_, _, _, _, by rw [← HD.out.2], ⟨h7.neg, ?_⟩, ?_, ?_⟩
    ·have hr7 := h7.row
     (repeat' first | exact hr7 | refine Sx.set ?_ ?_ _ _ | refine Sx.alloc ?_ _ | refine Sx.drew ?_ | (intro A e; have := f7 A e; (try simp only [sA, sB, sC, sD] at this); omega))
    ·(intro A e; have := f7 A e; (try simp only [sA, sB, sC, sD] at this); omega)
    exact bel
   ·obtain rfl : rest = 0 := by omega
    have hdp := div_pos (a := z) (n := d) (q := val qs) (r := 0) (by omega) HA.out ⟨by omega, by omega⟩ (.inr rfl)
    rw [hngz] at hdp
    have HD := Lib.hid hdp
    have T1 : ∀ W, Below wr.heap.size wr W → Calls Tryz.prog 118 #[.bool true, .slice (some ⟨w.heap.size + 1 + 1, 0, none⟩) n n] W (NewW W (z / d)) := fun W hW => by
     have := T0 W hW
     rw [HD.out.1] at this
     exact this
    clear hqv hqn hrow hlz hlq hqn0 hdp T0
    go_wp2_with (first | (have _t := tok1; go_at_call 118; (with_reducible refine ((T1 _ bel)).mono ?_); rintro e w1 ⟨b1, a1, n1, c1, rfl, hv1, hf1, hb1⟩; clear tok1 _t; have hz1 := hb1.size; (try simp only [sA, sB, sC, sD] at hz1); (try (obtain ⟨kq, qg⟩ := cfAt hb1 (w.heap.size); have qc := kq 0; have qd := kq 1; clear kq; simp [go_sem, *] at qc qd qg)); (try have qk : w.heap.size < w1.heap.size := by omega); (try (obtain ⟨kq, qh⟩ := cfAt hb1 (w.heap.size + 1); have qe := kq 0; have qf := kq 1; clear kq; simp [go_sem, *] at qe qf qh)); (try have ql : w.heap.size + 1 < w1.heap.size := by omega)))
    refine bodyPost_ret (v := .tuple #[.agg #[.bool b1, .slice a1 n1 c1], .int .i64 0]) (by simp [results, Tryz.results116, go_sem, *]) rfl ⟨_, _, _, _, by rw [← HD.out.2], ⟨hv1.neg, ?_⟩, ?_, ?_⟩
    ·have hr1 := hv1.row
     (repeat' first | exact hr1 | refine Sx.set ?_ ?_ _ _ | refine Sx.alloc ?_ _ | refine Sx.drew ?_ | (intro A e; have := hf1 A e; (try simp only [sA, sB, sC, sD] at this); omega))
    ·(intro A e; have := hf1 A e; (try simp only [sA, sB, sC, sD] at this); omega)
    exact bel
theorem bgOver_any (b : Bool) (a : Option Addr) (n c : Nat) (z d : Int) (w : World) (hs : Wx w b a n c z) (hl : n ≤ 9000) (hd : 1 ≤ d) (hd2 : d ≤ 100000000000000) :
  Calls Tryz.prog 116 #[.agg #[.bool b, .slice a n c], .int .i64 d] w (NewQ w z d) := by
 cases b
 ·exact bgOver_pos a n c z d w hs (by omega) hd hd2
 ·exact bgOver_neg a n c z d w hs hl hd hd2
end
end Go.Proofs.YtnkmgpmehkholaaGreat
