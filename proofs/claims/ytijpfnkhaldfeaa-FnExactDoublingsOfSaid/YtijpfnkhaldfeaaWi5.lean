/- The sums of the doubling: the program. -/
import Derived.Test.YtijpfnkhaldfeaaWi4
import Derived.Test.YtijpfnkhaldfeaaEc1
namespace Go.Proofs.Ytijpfnkhaldfeaa
open Go.RowKit
set_option linter.unusedVariables false
set_option maxHeartbeats 1000000
set_option maxRecDepth 20000
set_option linter.unusedSimpArgs false
attribute [local go_sem] openAt openUpon
theorem numeratorOf_eq {A B x z t : Int} {b b2 : Bool} {a a2 : Option Addr} {n c n2 c2 : Nat} {w : World} (hA : -1000 ≤ A ∧ A ≤ 1000) (hBB : -10000 ≤ B ∧ B ≤ 10000) (hx : Wx w b a n c x) (hz : Wx w b2 a2 n2 c2 z) (lx' : ln x ≤ 80) (lz' : ln z ≤ 80) (et : topZ A B x z = t) :
    Calls Try.prog 54 #[.agg #[.int .i64 A, .int .i64 B], .agg #[.bool b, .slice a n c, .bool b2, .slice a2 n2 c2]] w (NewW w t) := by
  obtain ⟨u1, hu1⟩ : ∃ v, -2 * A = v := ⟨_, rfl⟩
  obtain ⟨u2, hu2⟩ : ∃ v, -8 * B = v := ⟨_, rfl⟩
  obtain ⟨u3, hu3⟩ : ∃ v, A * A = v := ⟨_, rfl⟩
  obtain ⟨p1, hp1⟩ : ∃ v, prodZ [x, x, x, x] 4 = v := ⟨_, rfl⟩
  obtain ⟨p2, hp2⟩ : ∃ v, prodZ [u1, x, x, z, z] 5 = v := ⟨_, rfl⟩
  obtain ⟨p3, hp3⟩ : ∃ v, prodZ [u2, x, z, z, z] 5 = v := ⟨_, rfl⟩
  obtain ⟨p4, hp4⟩ : ∃ v, prodZ [u3, z, z, z, z] 5 = v := ⟨_, rfl⟩
  have RT := Lib.hid (show sumZ [p1, p2, p3, p4] 4 = t by
    rw [← et, ← top_impl]; subst hu1 hu2 hu3 hp1 hp2 hp3 hp4; rfl)
  have hAA := mul_bd (a := A) (b := A) (A := 1000) (B := 1000) (by omega) (by omega)
  have lx : ln x ≤ 1500 := by omega
  have lz : ln z ≤ 1500 := by omega
  have g1 := ln_small (a := -2 * A) (by omega) (by omega)
  have g2 := ln_small (a := -8 * B) (by omega) (by omega)
  have g3 := ln_small (a := A * A) (by omega) (by omega)
  have mu1 : ln u1 ≤ 1500 := by rw [← hu1]; omega
  have mu2 : ln u2 ≤ 1500 := by rw [← hu2]; omega
  have mu3 : ln u3 ≤ 1500 := by rw [← hu3]; omega
  have nu1 : ln u1 ≤ 80 := by rw [← hu1]; omega
  have nu2 : ln u2 ≤ 80 := by rw [← hu2]; omega
  have nu3 : ln u3 ≤ 80 := by rw [← hu3]; omega
  have mp1 : ln p1 ≤ 1500 := by rw [← hp1]; exact Nat.le_trans (prodZ_ln (all4 lx' lx' lx' lx') 4) (by simp)
  have mp2 : ln p2 ≤ 1500 := by rw [← hp2]; exact Nat.le_trans (prodZ_ln (all5 nu1 lx' lx' lz' lz') 5) (by simp)
  have mp3 : ln p3 ≤ 1500 := by rw [← hp3]; exact Nat.le_trans (prodZ_ln (all5 nu2 lx' lz' lz' lz') 5) (by simp)
  have mp4 : ln p4 ≤ 1500 := by rw [← hp4]; exact Nat.le_trans (prodZ_ln (all5 nu3 lz' lz' lz' lz') 5) (by simp)
  have U1 := Lib.hid hu1; have U2 := Lib.hid hu2; have U3 := Lib.hid hu3; have P1 := Lib.hid hp1; have P2 := Lib.hid hp2; have P3 := Lib.hid hp3; have P4 := Lib.hid hp4
  clear hu1 hu2 hu3 hp1 hp2 hp3 hp4 et g1 g2 g3 nu1 nu2 nu3 lx' lz'
  go_enter Try.func54, Try.ntmps54
  go_wp2_with fail
  refine chk (fun W => Below w.heap.size w W ∧ W.heap[w.heap.size]? = some (.cells #[.int .i64 A, .int .i64 B] 33 (0, 0)) ∧ W.heap[w.heap.size + 1]? = some (.cells #[.bool b, .slice a n c, .bool b2, .slice a2 n2 c2] 37 (0, 0)) ∧ W.heap[w.heap.size + 1 + 1]? = some (.cells #[.bool false, .slice none 0 0] 35 (0, 0)) ∧ Wx W b a n c x ∧ Wx W b2 a2 n2 c2 z) (by refine ⟨?_, ?_, ?_, ?_, ?_, ?_⟩ <;> (repeat' first | (with_reducible first | assumption | (apply Ne.symm; assumption) | apply Nat.le_refl | apply Nat.le_add_right | apply zL | apply zRf | apply Wx.box | apply Wx.box4 | apply zWa | apply Wx.drew | apply zWn | apply bx_drew | apply bx_drewN | apply bx_set3 | apply bx_set2 | apply bx_set4 | apply bx_set1) | ((with_reducible apply bx_new); (focus (go_size; done))) | (with_reducible first | apply zOl | apply zFa | apply zDn | apply zDr | apply zAl | apply zSt | refine zVi (by assumption) ?_ ?_) | go_size | omega)) ?_
  try clear hx
  try clear hz
  rintro w1 ⟨hB1, H_C_1, H_R_1, H_O_1, hx', hz'⟩
  obtain ⟨k_C_1_0, k_C_1_1, f_C_1, l_C_1⟩ := bk2 H_C_1
  replace H_C_1 := Lib.hid H_C_1
  obtain ⟨k_R_1_0, k_R_1_1, k_R_1_2, k_R_1_3, f_R_1, l_R_1⟩ := bk4 H_R_1
  replace H_R_1 := Lib.hid H_R_1
  obtain ⟨k_O_1_0, k_O_1_1, f_O_1, l_O_1⟩ := bk2 H_O_1
  replace H_O_1 := Lib.hid H_O_1
  have hx := hx'
  clear hx'
  have hz := hz'
  clear hz'
  go_region
  go_wp2_with fail
  replace H_C_1 := H_C_1.out
  replace H_R_1 := H_R_1.out
  replace H_O_1 := H_O_1.out
  refine chk (fun W => Below w.heap.size w W ∧ W.heap[w.heap.size]? = some (.cells #[.int .i64 A, .int .i64 B] 33 (0, 0)) ∧ W.heap[w.heap.size + 1 + 1]? = some (.cells #[.bool false, .slice none 0 0] 35 (0, 0)) ∧ W.heap[w1.heap.size]? = some (.cells #[.bool b, .slice a n c] 35 (0, 0)) ∧ W.heap[w1.heap.size + 1]? = some (.cells #[.bool b2, .slice a2 n2 c2] 35 (0, 0)) ∧ Wx W b a n c x ∧ Wx W b2 a2 n2 c2 z) (by refine ⟨?_, ?_, ?_, ?_, ?_, ?_, ?_⟩ <;> (repeat' first | (with_reducible first | assumption | (apply Ne.symm; assumption) | apply Nat.le_refl | apply Nat.le_add_right | apply zL | apply zRf | apply Wx.box | apply Wx.box4 | apply zWa | apply Wx.drew | apply zWn | apply bx_drew | apply bx_drewN | apply bx_set3 | apply bx_set2 | apply bx_set4 | apply bx_set1) | ((with_reducible apply bx_new); (focus (go_size; done))) | (with_reducible first | apply zOl | apply zFa | apply zDn | apply zDr | apply zAl | apply zSt | refine zVi (by assumption) ?_ ?_) | go_size | omega)) ?_
  try clear hx
  try clear hz
  clear k_C_1_0 k_C_1_1 f_C_1 H_C_1
  clear k_R_1_0 k_R_1_1 k_R_1_2 k_R_1_3 f_R_1 H_R_1
  clear k_O_1_0 k_O_1_1 f_O_1 H_O_1
  clear hB1
  rintro w3 ⟨hB3, H_C_3, H_O_3, H_X_3, H_Z_3, hx', hz'⟩
  obtain ⟨k_C_3_0, k_C_3_1, f_C_3, l_C_3⟩ := bk2 H_C_3
  replace H_C_3 := Lib.hid H_C_3
  obtain ⟨k_O_3_0, k_O_3_1, f_O_3, l_O_3⟩ := bk2 H_O_3
  replace H_O_3 := Lib.hid H_O_3
  obtain ⟨k_X_3_0, k_X_3_1, f_X_3, l_X_3⟩ := bk2 H_X_3
  replace H_X_3 := Lib.hid H_X_3
  obtain ⟨k_Z_3_0, k_Z_3_1, f_Z_3, l_Z_3⟩ := bk2 H_Z_3
  replace H_Z_3 := Lib.hid H_Z_3
  have hx := hx'
  clear hx'
  have hz := hz'
  clear hz'
  generalize w1.heap.size + 1 = gz at *
  generalize w1.heap.size = gx at *
  clear w1
  rotate_left
  go_wp2_with fail
  replace H_C_1 := H_C_1.out
  replace H_R_1 := H_R_1.out
  replace H_O_1 := H_O_1.out
  refine chk (fun W => Below w.heap.size w W ∧ W.heap[w.heap.size]? = some (.cells #[.int .i64 A, .int .i64 B] 33 (0, 0)) ∧ W.heap[w.heap.size + 1 + 1]? = some (.cells #[.bool false, .slice none 0 0] 35 (0, 0)) ∧ W.heap[w1.heap.size + 1]? = some (.cells #[.bool b, .slice a n c] 35 (0, 0)) ∧ W.heap[w1.heap.size]? = some (.cells #[.bool b2, .slice a2 n2 c2] 35 (0, 0)) ∧ Wx W b a n c x ∧ Wx W b2 a2 n2 c2 z) (by refine ⟨?_, ?_, ?_, ?_, ?_, ?_, ?_⟩ <;> (repeat' first | (with_reducible first | assumption | (apply Ne.symm; assumption) | apply Nat.le_refl | apply Nat.le_add_right | apply zL | apply zRf | apply Wx.box | apply Wx.box4 | apply zWa | apply Wx.drew | apply zWn | apply bx_drew | apply bx_drewN | apply bx_set3 | apply bx_set2 | apply bx_set4 | apply bx_set1) | ((with_reducible apply bx_new); (focus (go_size; done))) | (with_reducible first | apply zOl | apply zFa | apply zDn | apply zDr | apply zAl | apply zSt | refine zVi (by assumption) ?_ ?_) | go_size | omega)) ?_
  try clear hx
  try clear hz
  clear k_C_1_0 k_C_1_1 f_C_1 H_C_1
  clear k_R_1_0 k_R_1_1 k_R_1_2 k_R_1_3 f_R_1 H_R_1
  clear k_O_1_0 k_O_1_1 f_O_1 H_O_1
  clear hB1
  rintro w3 ⟨hB3, H_C_3, H_O_3, H_X_3, H_Z_3, hx', hz'⟩
  obtain ⟨k_C_3_0, k_C_3_1, f_C_3, l_C_3⟩ := bk2 H_C_3
  replace H_C_3 := Lib.hid H_C_3
  obtain ⟨k_O_3_0, k_O_3_1, f_O_3, l_O_3⟩ := bk2 H_O_3
  replace H_O_3 := Lib.hid H_O_3
  obtain ⟨k_X_3_0, k_X_3_1, f_X_3, l_X_3⟩ := bk2 H_X_3
  replace H_X_3 := Lib.hid H_X_3
  obtain ⟨k_Z_3_0, k_Z_3_1, f_Z_3, l_Z_3⟩ := bk2 H_Z_3
  replace H_Z_3 := Lib.hid H_Z_3
  have hx := hx'
  clear hx'
  have hz := hz'
  clear hz'
  generalize w1.heap.size + 1 = gx at *
  generalize w1.heap.size = gz at *
  clear w1
  all_goals
    refine wp_open (n := 40) (by kernel_rfl) (by kernel_rfl) (by kernel_rfl) (by kernel_rfl) ?_
    simp only [List.take_succ_cons, List.take_zero]
    apply wpS_quiet
    · intro γ W hW hp
      have hs := hW.size
      (try simp only [World.size_alloc, World.size_setCell, World.size_drew, World.size_drewN'] at hs)
      have kx_0 := fun x : Over W => ((cellAt x.lies (gx) (by omega) 0).trans (cellAt hW (gx) (by first | omega | go_size) 0)).trans k_X_3_0
      have kx_1 := fun x : Over W => ((cellAt x.lies (gx) (by omega) 1).trans (cellAt hW (gx) (by first | omega | go_size) 1)).trans k_X_3_1
      clear hW hp
      refine ⟨rfl, ?_⟩
      go_big_quiet_op
      first | exact rfl
    · exact locS_const _
    try simp only [Act.put, List.setIfInBounds_toArray, List.set_cons_succ, List.set_cons_zero, Nat.reduceAdd]
    apply wpS_quiet
    · intro γ W hW hp
      have hs := hW.size
      (try simp only [World.size_alloc, World.size_setCell, World.size_drew, World.size_drewN'] at hs)
      have kx_0 := fun x : Over W => ((cellAt x.lies (gx) (by omega) 0).trans (cellAt hW (gx) (by first | omega | go_size) 0)).trans k_X_3_0
      have kx_1 := fun x : Over W => ((cellAt x.lies (gx) (by omega) 1).trans (cellAt hW (gx) (by first | omega | go_size) 1)).trans k_X_3_1
      clear hW hp
      refine ⟨rfl, ?_⟩
      go_big_quiet_op
      first | exact rfl
    · exact locS_const _
    try simp only [Act.put, List.setIfInBounds_toArray, List.set_cons_succ, List.set_cons_zero, Nat.reduceAdd]
    apply wpS_quiet
    · intro γ W hW hp
      have hs := hW.size
      (try simp only [World.size_alloc, World.size_setCell, World.size_drew, World.size_drewN'] at hs)
      have kx_0 := fun x : Over W => ((cellAt x.lies (gx) (by omega) 0).trans (cellAt hW (gx) (by first | omega | go_size) 0)).trans k_X_3_0
      have kx_1 := fun x : Over W => ((cellAt x.lies (gx) (by omega) 1).trans (cellAt hW (gx) (by first | omega | go_size) 1)).trans k_X_3_1
      clear hW hp
      refine ⟨rfl, ?_⟩
      go_big_quiet_op
      first | exact rfl
    · exact locS_const _
    try simp only [Act.put, List.setIfInBounds_toArray, List.set_cons_succ, List.set_cons_zero, Nat.reduceAdd]
    apply wpS_quiet
    · intro γ W hW hp
      have hs := hW.size
      (try simp only [World.size_alloc, World.size_setCell, World.size_drew, World.size_drewN'] at hs)
      have kx_0 := fun x : Over W => ((cellAt x.lies (gx) (by omega) 0).trans (cellAt hW (gx) (by first | omega | go_size) 0)).trans k_X_3_0
      have kx_1 := fun x : Over W => ((cellAt x.lies (gx) (by omega) 1).trans (cellAt hW (gx) (by first | omega | go_size) 1)).trans k_X_3_1
      clear hW hp
      refine ⟨rfl, ?_⟩
      go_big_quiet_op
      first | exact rfl
    · exact locS_const _
    try simp only [Act.put, List.setIfInBounds_toArray, List.set_cons_succ, List.set_cons_zero, Nat.reduceAdd]
    apply wpS_open (openL 4 [x, x, x, x])
    · intro γ W hW hp
      refine ⟨rfl, ?_⟩
      go_simp
      exact ⟨⟨⟨_, rfl, LxAt.new4 (hx.below hW) (hx.below hW) (hx.below hW) (hx.below hW)⟩, fun e => by cases e⟩, (Below.refl _ _).alloc (Nat.le_refl _) _⟩
    try simp only [Act.put, List.setIfInBounds_toArray, List.set_cons_succ, List.set_cons_zero, Nat.reduceAdd]
    apply wpS_open (openW w.heap.size p1)
    · intro γ W hW hp
      have hp_4 := hp _ (List.mem_append_right _ (List.mem_singleton.2 rfl)) (by kernel_rfl)
      dsimp only at hp_4
      refine ⟨rfl, ?_⟩
      go_simp
      refine plainNew rfl ?_
      obtain ⟨g3, e3, h3⟩ := hp_4
      rw [e3]
      exact open_W (productWholes_eq h3 rfl (by omega) P1.out (all4 lx lx lx lx)) (by (have := hW.size; (try simp only [World.size_alloc, World.size_setCell, World.size_drew, World.size_drewN'] at this); omega))
    try simp only [Act.put, List.setIfInBounds_toArray, List.set_cons_succ, List.set_cons_zero, Nat.reduceAdd]
    apply wpS_quiet
    · intro γ W hW hp
      refine ⟨rfl, ?_⟩
      go_big_quiet_op
      first | exact rfl
    · exact locS_const _
    try simp only [Act.put, List.setIfInBounds_toArray, List.set_cons_succ, List.set_cons_zero, Nat.reduceAdd]
    apply wpS_quiet
    · intro γ W hW hp
      have hs := hW.size
      (try simp only [World.size_alloc, World.size_setCell, World.size_drew, World.size_drewN'] at hs)
      have kx_0 := fun x : Over W => ((cellAt x.lies (w.heap.size) (by omega) 0).trans (cellAt hW (w.heap.size) (by first | omega | go_size) 0)).trans k_C_3_0
      have kx_1 := fun x : Over W => ((cellAt x.lies (w.heap.size) (by omega) 1).trans (cellAt hW (w.heap.size) (by first | omega | go_size) 1)).trans k_C_3_1
      clear hW hp
      refine ⟨rfl, ?_⟩
      go_big_quiet_op
      first | exact rfl
    · exact locS_const _
    try simp only [Act.put, List.setIfInBounds_toArray, List.set_cons_succ, List.set_cons_zero, Nat.reduceAdd]
    apply wpS_quiet
    · intro γ W hW hp
      refine ⟨rfl, ?_⟩
      go_big_quiet_op
      first | exact rfl
    · exact locS_const _
    try simp only [Act.put, List.setIfInBounds_toArray, List.set_cons_succ, List.set_cons_zero, Nat.reduceAdd]
    apply wpS_open (openW w.heap.size u1)
    · intro γ W hW hp
      refine ⟨rfl, ?_⟩
      go_simp
      refine plainNew rfl ?_
      exact open_W (wholeOf_eq (by have := U1.out; omega) (by omega) (by omega)) (by (have := hW.size; (try simp only [World.size_alloc, World.size_setCell, World.size_drew, World.size_drewN'] at this); omega))
    try simp only [Act.put, List.setIfInBounds_toArray, List.set_cons_succ, List.set_cons_zero, Nat.reduceAdd]
    apply wpS_quiet
    · intro γ W hW hp
      have hs := hW.size
      (try simp only [World.size_alloc, World.size_setCell, World.size_drew, World.size_drewN'] at hs)
      have kx_0 := fun x : Over W => ((cellAt x.lies (gx) (by omega) 0).trans (cellAt hW (gx) (by first | omega | go_size) 0)).trans k_X_3_0
      have kx_1 := fun x : Over W => ((cellAt x.lies (gx) (by omega) 1).trans (cellAt hW (gx) (by first | omega | go_size) 1)).trans k_X_3_1
      clear hW hp
      refine ⟨rfl, ?_⟩
      go_big_quiet_op
      first | exact rfl
    · exact locS_const _
    try simp only [Act.put, List.setIfInBounds_toArray, List.set_cons_succ, List.set_cons_zero, Nat.reduceAdd]
    apply wpS_quiet
    · intro γ W hW hp
      have hs := hW.size
      (try simp only [World.size_alloc, World.size_setCell, World.size_drew, World.size_drewN'] at hs)
      have kx_0 := fun x : Over W => ((cellAt x.lies (gx) (by omega) 0).trans (cellAt hW (gx) (by first | omega | go_size) 0)).trans k_X_3_0
      have kx_1 := fun x : Over W => ((cellAt x.lies (gx) (by omega) 1).trans (cellAt hW (gx) (by first | omega | go_size) 1)).trans k_X_3_1
      clear hW hp
      refine ⟨rfl, ?_⟩
      go_big_quiet_op
      first | exact rfl
    · exact locS_const _
    try simp only [Act.put, List.setIfInBounds_toArray, List.set_cons_succ, List.set_cons_zero, Nat.reduceAdd]
    apply wpS_quiet
    · intro γ W hW hp
      have hs := hW.size
      (try simp only [World.size_alloc, World.size_setCell, World.size_drew, World.size_drewN'] at hs)
      have kx_0 := fun x : Over W => ((cellAt x.lies (gz) (by omega) 0).trans (cellAt hW (gz) (by first | omega | go_size) 0)).trans k_Z_3_0
      have kx_1 := fun x : Over W => ((cellAt x.lies (gz) (by omega) 1).trans (cellAt hW (gz) (by first | omega | go_size) 1)).trans k_Z_3_1
      clear hW hp
      refine ⟨rfl, ?_⟩
      go_big_quiet_op
      first | exact rfl
    · exact locS_const _
    try simp only [Act.put, List.setIfInBounds_toArray, List.set_cons_succ, List.set_cons_zero, Nat.reduceAdd]
    apply wpS_quiet
    · intro γ W hW hp
      have hs := hW.size
      (try simp only [World.size_alloc, World.size_setCell, World.size_drew, World.size_drewN'] at hs)
      have kx_0 := fun x : Over W => ((cellAt x.lies (gz) (by omega) 0).trans (cellAt hW (gz) (by first | omega | go_size) 0)).trans k_Z_3_0
      have kx_1 := fun x : Over W => ((cellAt x.lies (gz) (by omega) 1).trans (cellAt hW (gz) (by first | omega | go_size) 1)).trans k_Z_3_1
      clear hW hp
      refine ⟨rfl, ?_⟩
      go_big_quiet_op
      first | exact rfl
    · exact locS_const _
    try simp only [Act.put, List.setIfInBounds_toArray, List.set_cons_succ, List.set_cons_zero, Nat.reduceAdd]
    apply wpS_open (openL 5 [u1, x, x, z, z])
    · intro γ W hW hp
      have hp_9 := hp _ (List.mem_append_right _ (List.mem_singleton.2 rfl)) (by kernel_rfl)
      dsimp only at hp_9
      refine ⟨rfl, ?_⟩
      obtain ⟨b3, a3, n3, c3, e3, h3, _⟩ := hp_9
      rw [e3]
      go_simp
      exact ⟨⟨⟨_, rfl, LxAt.new5 h3 (hx.below hW) (hx.below hW) (hz.below hW) (hz.below hW)⟩, fun e => by cases e⟩, (Below.refl _ _).alloc (Nat.le_refl _) _⟩
    try simp only [Act.put, List.setIfInBounds_toArray, List.set_cons_succ, List.set_cons_zero, Nat.reduceAdd]
    apply wpS_open (openW w.heap.size p2)
    · intro γ W hW hp
      have hp_14 := hp _ (List.mem_append_right _ (List.mem_singleton.2 rfl)) (by kernel_rfl)
      dsimp only at hp_14
      refine ⟨rfl, ?_⟩
      go_simp
      refine plainNew rfl ?_
      obtain ⟨g3, e3, h3⟩ := hp_14
      rw [e3]
      exact open_W (productWholes_eq h3 rfl (by omega) P2.out (all5 mu1 lx lx lz lz)) (by (have := hW.size; (try simp only [World.size_alloc, World.size_setCell, World.size_drew, World.size_drewN'] at this); omega))
    try simp only [Act.put, List.setIfInBounds_toArray, List.set_cons_succ, List.set_cons_zero, Nat.reduceAdd]
    apply wpS_quiet
    · intro γ W hW hp
      refine ⟨rfl, ?_⟩
      go_big_quiet_op
      first | exact rfl
    · exact locS_const _
    try simp only [Act.put, List.setIfInBounds_toArray, List.set_cons_succ, List.set_cons_zero, Nat.reduceAdd]
    apply wpS_quiet
    · intro γ W hW hp
      have hs := hW.size
      (try simp only [World.size_alloc, World.size_setCell, World.size_drew, World.size_drewN'] at hs)
      have kx_0 := fun x : Over W => ((cellAt x.lies (w.heap.size) (by omega) 0).trans (cellAt hW (w.heap.size) (by first | omega | go_size) 0)).trans k_C_3_0
      have kx_1 := fun x : Over W => ((cellAt x.lies (w.heap.size) (by omega) 1).trans (cellAt hW (w.heap.size) (by first | omega | go_size) 1)).trans k_C_3_1
      clear hW hp
      refine ⟨rfl, ?_⟩
      go_big_quiet_op
      first | exact rfl
    · exact locS_const _
    try simp only [Act.put, List.setIfInBounds_toArray, List.set_cons_succ, List.set_cons_zero, Nat.reduceAdd]
    apply wpS_quiet
    · intro γ W hW hp
      refine ⟨rfl, ?_⟩
      go_big_quiet_op
      first | exact rfl
    · exact locS_const _
    try simp only [Act.put, List.setIfInBounds_toArray, List.set_cons_succ, List.set_cons_zero, Nat.reduceAdd]
    apply wpS_open (openW w.heap.size u2)
    · intro γ W hW hp
      refine ⟨rfl, ?_⟩
      go_simp
      refine plainNew rfl ?_
      exact open_W (wholeOf_eq (by have := U2.out; omega) (by omega) (by omega)) (by (have := hW.size; (try simp only [World.size_alloc, World.size_setCell, World.size_drew, World.size_drewN'] at this); omega))
    try simp only [Act.put, List.setIfInBounds_toArray, List.set_cons_succ, List.set_cons_zero, Nat.reduceAdd]
    apply wpS_quiet
    · intro γ W hW hp
      have hs := hW.size
      (try simp only [World.size_alloc, World.size_setCell, World.size_drew, World.size_drewN'] at hs)
      have kx_0 := fun x : Over W => ((cellAt x.lies (gx) (by omega) 0).trans (cellAt hW (gx) (by first | omega | go_size) 0)).trans k_X_3_0
      have kx_1 := fun x : Over W => ((cellAt x.lies (gx) (by omega) 1).trans (cellAt hW (gx) (by first | omega | go_size) 1)).trans k_X_3_1
      clear hW hp
      refine ⟨rfl, ?_⟩
      go_big_quiet_op
      first | exact rfl
    · exact locS_const _
    try simp only [Act.put, List.setIfInBounds_toArray, List.set_cons_succ, List.set_cons_zero, Nat.reduceAdd]
    apply wpS_quiet
    · intro γ W hW hp
      have hs := hW.size
      (try simp only [World.size_alloc, World.size_setCell, World.size_drew, World.size_drewN'] at hs)
      have kx_0 := fun x : Over W => ((cellAt x.lies (gz) (by omega) 0).trans (cellAt hW (gz) (by first | omega | go_size) 0)).trans k_Z_3_0
      have kx_1 := fun x : Over W => ((cellAt x.lies (gz) (by omega) 1).trans (cellAt hW (gz) (by first | omega | go_size) 1)).trans k_Z_3_1
      clear hW hp
      refine ⟨rfl, ?_⟩
      go_big_quiet_op
      first | exact rfl
    · exact locS_const _
    try simp only [Act.put, List.setIfInBounds_toArray, List.set_cons_succ, List.set_cons_zero, Nat.reduceAdd]
    apply wpS_quiet
    · intro γ W hW hp
      have hs := hW.size
      (try simp only [World.size_alloc, World.size_setCell, World.size_drew, World.size_drewN'] at hs)
      have kx_0 := fun x : Over W => ((cellAt x.lies (gz) (by omega) 0).trans (cellAt hW (gz) (by first | omega | go_size) 0)).trans k_Z_3_0
      have kx_1 := fun x : Over W => ((cellAt x.lies (gz) (by omega) 1).trans (cellAt hW (gz) (by first | omega | go_size) 1)).trans k_Z_3_1
      clear hW hp
      refine ⟨rfl, ?_⟩
      go_big_quiet_op
      first | exact rfl
    · exact locS_const _
    try simp only [Act.put, List.setIfInBounds_toArray, List.set_cons_succ, List.set_cons_zero, Nat.reduceAdd]
    apply wpS_quiet
    · intro γ W hW hp
      have hs := hW.size
      (try simp only [World.size_alloc, World.size_setCell, World.size_drew, World.size_drewN'] at hs)
      have kx_0 := fun x : Over W => ((cellAt x.lies (gz) (by omega) 0).trans (cellAt hW (gz) (by first | omega | go_size) 0)).trans k_Z_3_0
      have kx_1 := fun x : Over W => ((cellAt x.lies (gz) (by omega) 1).trans (cellAt hW (gz) (by first | omega | go_size) 1)).trans k_Z_3_1
      clear hW hp
      refine ⟨rfl, ?_⟩
      go_big_quiet_op
      first | exact rfl
    · exact locS_const _
    try simp only [Act.put, List.setIfInBounds_toArray, List.set_cons_succ, List.set_cons_zero, Nat.reduceAdd]
    apply wpS_open (openL 5 [u2, x, z, z, z])
    · intro γ W hW hp
      have hp_19 := hp _ (List.mem_append_right _ (List.mem_singleton.2 rfl)) (by kernel_rfl)
      dsimp only at hp_19
      refine ⟨rfl, ?_⟩
      obtain ⟨b3, a3, n3, c3, e3, h3, _⟩ := hp_19
      rw [e3]
      go_simp
      exact ⟨⟨⟨_, rfl, LxAt.new5 h3 (hx.below hW) (hz.below hW) (hz.below hW) (hz.below hW)⟩, fun e => by cases e⟩, (Below.refl _ _).alloc (Nat.le_refl _) _⟩
    try simp only [Act.put, List.setIfInBounds_toArray, List.set_cons_succ, List.set_cons_zero, Nat.reduceAdd]
    apply wpS_open (openW w.heap.size p3)
    · intro γ W hW hp
      have hp_24 := hp _ (List.mem_append_right _ (List.mem_singleton.2 rfl)) (by kernel_rfl)
      dsimp only at hp_24
      refine ⟨rfl, ?_⟩
      go_simp
      refine plainNew rfl ?_
      obtain ⟨g3, e3, h3⟩ := hp_24
      rw [e3]
      exact open_W (productWholes_eq h3 rfl (by omega) P3.out (all5 mu2 lx lz lz lz)) (by (have := hW.size; (try simp only [World.size_alloc, World.size_setCell, World.size_drew, World.size_drewN'] at this); omega))
    try simp only [Act.put, List.setIfInBounds_toArray, List.set_cons_succ, List.set_cons_zero, Nat.reduceAdd]
    apply wpS_quiet
    · intro γ W hW hp
      refine ⟨rfl, ?_⟩
      go_big_quiet_op
      first | exact rfl
    · exact locS_const _
    try simp only [Act.put, List.setIfInBounds_toArray, List.set_cons_succ, List.set_cons_zero, Nat.reduceAdd]
    apply wpS_quiet
    · intro γ W hW hp
      have hs := hW.size
      (try simp only [World.size_alloc, World.size_setCell, World.size_drew, World.size_drewN'] at hs)
      have kx_0 := fun x : Over W => ((cellAt x.lies (w.heap.size) (by omega) 0).trans (cellAt hW (w.heap.size) (by first | omega | go_size) 0)).trans k_C_3_0
      have kx_1 := fun x : Over W => ((cellAt x.lies (w.heap.size) (by omega) 1).trans (cellAt hW (w.heap.size) (by first | omega | go_size) 1)).trans k_C_3_1
      clear hW hp
      refine ⟨rfl, ?_⟩
      go_big_quiet_op
      first | exact rfl
    · exact locS_const _
    try simp only [Act.put, List.setIfInBounds_toArray, List.set_cons_succ, List.set_cons_zero, Nat.reduceAdd]
    apply wpS_quiet
    · intro γ W hW hp
      refine ⟨rfl, ?_⟩
      go_big_quiet_op
      first | exact rfl
    · exact locS_const _
    try simp only [Act.put, List.setIfInBounds_toArray, List.set_cons_succ, List.set_cons_zero, Nat.reduceAdd]
    apply wpS_quiet
    · intro γ W hW hp
      have hs := hW.size
      (try simp only [World.size_alloc, World.size_setCell, World.size_drew, World.size_drewN'] at hs)
      have kx_0 := fun x : Over W => ((cellAt x.lies (w.heap.size) (by omega) 0).trans (cellAt hW (w.heap.size) (by first | omega | go_size) 0)).trans k_C_3_0
      have kx_1 := fun x : Over W => ((cellAt x.lies (w.heap.size) (by omega) 1).trans (cellAt hW (w.heap.size) (by first | omega | go_size) 1)).trans k_C_3_1
      clear hW hp
      refine ⟨rfl, ?_⟩
      go_big_quiet_op
      first | exact rfl
    · exact locS_const _
    try simp only [Act.put, List.setIfInBounds_toArray, List.set_cons_succ, List.set_cons_zero, Nat.reduceAdd]
    apply wpS_quiet
    · intro γ W hW hp
      refine ⟨rfl, ?_⟩
      go_big_quiet_op
      first | exact rfl
    · exact locS_const _
    try simp only [Act.put, List.setIfInBounds_toArray, List.set_cons_succ, List.set_cons_zero, Nat.reduceAdd]
    apply wpS_open (openW w.heap.size u3)
    · intro γ W hW hp
      refine ⟨rfl, ?_⟩
      go_simp
      refine plainNew rfl ?_
      exact open_W (wholeOf_eq U3.out (by omega) (by omega)) (by (have := hW.size; (try simp only [World.size_alloc, World.size_setCell, World.size_drew, World.size_drewN'] at this); omega))
    try simp only [Act.put, List.setIfInBounds_toArray, List.set_cons_succ, List.set_cons_zero, Nat.reduceAdd]
    apply wpS_quiet
    · intro γ W hW hp
      have hs := hW.size
      (try simp only [World.size_alloc, World.size_setCell, World.size_drew, World.size_drewN'] at hs)
      have kx_0 := fun x : Over W => ((cellAt x.lies (gz) (by omega) 0).trans (cellAt hW (gz) (by first | omega | go_size) 0)).trans k_Z_3_0
      have kx_1 := fun x : Over W => ((cellAt x.lies (gz) (by omega) 1).trans (cellAt hW (gz) (by first | omega | go_size) 1)).trans k_Z_3_1
      clear hW hp
      refine ⟨rfl, ?_⟩
      go_big_quiet_op
      first | exact rfl
    · exact locS_const _
    try simp only [Act.put, List.setIfInBounds_toArray, List.set_cons_succ, List.set_cons_zero, Nat.reduceAdd]
    apply wpS_quiet
    · intro γ W hW hp
      have hs := hW.size
      (try simp only [World.size_alloc, World.size_setCell, World.size_drew, World.size_drewN'] at hs)
      have kx_0 := fun x : Over W => ((cellAt x.lies (gz) (by omega) 0).trans (cellAt hW (gz) (by first | omega | go_size) 0)).trans k_Z_3_0
      have kx_1 := fun x : Over W => ((cellAt x.lies (gz) (by omega) 1).trans (cellAt hW (gz) (by first | omega | go_size) 1)).trans k_Z_3_1
      clear hW hp
      refine ⟨rfl, ?_⟩
      go_big_quiet_op
      first | exact rfl
    · exact locS_const _
    try simp only [Act.put, List.setIfInBounds_toArray, List.set_cons_succ, List.set_cons_zero, Nat.reduceAdd]
    apply wpS_quiet
    · intro γ W hW hp
      have hs := hW.size
      (try simp only [World.size_alloc, World.size_setCell, World.size_drew, World.size_drewN'] at hs)
      have kx_0 := fun x : Over W => ((cellAt x.lies (gz) (by omega) 0).trans (cellAt hW (gz) (by first | omega | go_size) 0)).trans k_Z_3_0
      have kx_1 := fun x : Over W => ((cellAt x.lies (gz) (by omega) 1).trans (cellAt hW (gz) (by first | omega | go_size) 1)).trans k_Z_3_1
      clear hW hp
      refine ⟨rfl, ?_⟩
      go_big_quiet_op
      first | exact rfl
    · exact locS_const _
    try simp only [Act.put, List.setIfInBounds_toArray, List.set_cons_succ, List.set_cons_zero, Nat.reduceAdd]
    apply wpS_quiet
    · intro γ W hW hp
      have hs := hW.size
      (try simp only [World.size_alloc, World.size_setCell, World.size_drew, World.size_drewN'] at hs)
      have kx_0 := fun x : Over W => ((cellAt x.lies (gz) (by omega) 0).trans (cellAt hW (gz) (by first | omega | go_size) 0)).trans k_Z_3_0
      have kx_1 := fun x : Over W => ((cellAt x.lies (gz) (by omega) 1).trans (cellAt hW (gz) (by first | omega | go_size) 1)).trans k_Z_3_1
      clear hW hp
      refine ⟨rfl, ?_⟩
      go_big_quiet_op
      first | exact rfl
    · exact locS_const _
    try simp only [Act.put, List.setIfInBounds_toArray, List.set_cons_succ, List.set_cons_zero, Nat.reduceAdd]
    apply wpS_open (openL 5 [u3, z, z, z, z])
    · intro γ W hW hp
      have hp_31 := hp _ (List.mem_append_right _ (List.mem_singleton.2 rfl)) (by kernel_rfl)
      dsimp only at hp_31
      refine ⟨rfl, ?_⟩
      obtain ⟨b3, a3, n3, c3, e3, h3, _⟩ := hp_31
      rw [e3]
      go_simp
      exact ⟨⟨⟨_, rfl, LxAt.new5 h3 (hz.below hW) (hz.below hW) (hz.below hW) (hz.below hW)⟩, fun e => by cases e⟩, (Below.refl _ _).alloc (Nat.le_refl _) _⟩
    try simp only [Act.put, List.setIfInBounds_toArray, List.set_cons_succ, List.set_cons_zero, Nat.reduceAdd]
    apply wpS_open (openW w.heap.size p4)
    · intro γ W hW hp
      have hp_36 := hp _ (List.mem_append_right _ (List.mem_singleton.2 rfl)) (by kernel_rfl)
      dsimp only at hp_36
      refine ⟨rfl, ?_⟩
      go_simp
      refine plainNew rfl ?_
      obtain ⟨g3, e3, h3⟩ := hp_36
      rw [e3]
      exact open_W (productWholes_eq h3 rfl (by omega) P4.out (all5 mu3 lz lz lz lz)) (by (have := hW.size; (try simp only [World.size_alloc, World.size_setCell, World.size_drew, World.size_drewN'] at this); omega))
    try simp only [Act.put, List.setIfInBounds_toArray, List.set_cons_succ, List.set_cons_zero, Nat.reduceAdd]
    apply wpS_open (openL 4 [p1, p2, p3, p4])
    · intro γ W hW hp
      have hp_5 := hp _ (List.mem_append_left _ (List.mem_append_left _ (List.mem_append_left _ (List.mem_append_left _ (List.mem_append_left _ (List.mem_append_left _ (List.mem_append_left _ (List.mem_append_left _ (List.mem_append_left _ (List.mem_append_right _ (List.mem_singleton.2 rfl))))))))))) (by kernel_rfl)
      dsimp only at hp_5
      have hp_15 := hp _ (List.mem_append_left _ (List.mem_append_left _ (List.mem_append_left _ (List.mem_append_left _ (List.mem_append_left _ (List.mem_append_left _ (List.mem_append_right _ (List.mem_singleton.2 rfl)))))))) (by kernel_rfl)
      dsimp only at hp_15
      have hp_25 := hp _ (List.mem_append_left _ (List.mem_append_left _ (List.mem_append_left _ (List.mem_append_right _ (List.mem_singleton.2 rfl))))) (by kernel_rfl)
      dsimp only at hp_25
      have hp_37 := hp _ (List.mem_append_right _ (List.mem_singleton.2 rfl)) (by kernel_rfl)
      dsimp only at hp_37
      refine ⟨rfl, ?_⟩
      obtain ⟨b3, a3, n3, c3, e3, h3, _⟩ := hp_5
      obtain ⟨b4, a4, n4, c4, e4, h4, _⟩ := hp_15
      obtain ⟨b5, a5, n5, c5, e5, h5, _⟩ := hp_25
      obtain ⟨b6, a6, n6, c6, e6, h6, _⟩ := hp_37
      rw [e3, e4, e5, e6]
      go_simp
      exact ⟨⟨⟨_, rfl, LxAt.new4 h3 h4 h5 h6⟩, fun e => by cases e⟩, (Below.refl _ _).alloc (Nat.le_refl _) _⟩
    try simp only [Act.put, List.setIfInBounds_toArray, List.set_cons_succ, List.set_cons_zero, Nat.reduceAdd]
    apply wpS_open (openW w.heap.size t)
    · intro γ W hW hp
      have hp_38 := hp _ (List.mem_append_right _ (List.mem_singleton.2 rfl)) (by kernel_rfl)
      dsimp only at hp_38
      refine ⟨rfl, ?_⟩
      go_simp
      refine plainNew rfl ?_
      obtain ⟨g3, e3, h3⟩ := hp_38
      rw [e3]
      exact open_W (sumWholes_eq h3 rfl (by omega) RT.out (all4 mp1 mp2 mp3 mp4)) (by (have := hW.size; (try simp only [World.size_alloc, World.size_setCell, World.size_drew, World.size_drewN'] at this); omega))
    try simp only [Act.put, List.setIfInBounds_toArray, List.set_cons_succ, List.set_cons_zero, Nat.reduceAdd]
    apply wpS_end
    intro γ w4 hb4 hG4 hA4
    have hg4_4 := hG4 _ (List.mem_append_left _ (List.mem_append_left _ (List.mem_append_left _ (List.mem_append_left _ (List.mem_append_left _ (List.mem_append_left _ (List.mem_append_left _ (List.mem_append_left _ (List.mem_append_left _ (List.mem_append_left _ (List.mem_append_left _ (List.mem_append_left _ (List.mem_append_right _ (List.mem_singleton.2 rfl))))))))))))))
    dsimp only at hg4_4
    have hg4_5 := hG4 _ (List.mem_append_left _ (List.mem_append_left _ (List.mem_append_left _ (List.mem_append_left _ (List.mem_append_left _ (List.mem_append_left _ (List.mem_append_left _ (List.mem_append_left _ (List.mem_append_left _ (List.mem_append_left _ (List.mem_append_left _ (List.mem_append_right _ (List.mem_singleton.2 rfl)))))))))))))
    dsimp only at hg4_5
    have hg4_9 := hG4 _ (List.mem_append_left _ (List.mem_append_left _ (List.mem_append_left _ (List.mem_append_left _ (List.mem_append_left _ (List.mem_append_left _ (List.mem_append_left _ (List.mem_append_left _ (List.mem_append_left _ (List.mem_append_left _ (List.mem_append_right _ (List.mem_singleton.2 rfl))))))))))))
    dsimp only at hg4_9
    have hg4_14 := hG4 _ (List.mem_append_left _ (List.mem_append_left _ (List.mem_append_left _ (List.mem_append_left _ (List.mem_append_left _ (List.mem_append_left _ (List.mem_append_left _ (List.mem_append_left _ (List.mem_append_left _ (List.mem_append_right _ (List.mem_singleton.2 rfl)))))))))))
    dsimp only at hg4_14
    have hg4_15 := hG4 _ (List.mem_append_left _ (List.mem_append_left _ (List.mem_append_left _ (List.mem_append_left _ (List.mem_append_left _ (List.mem_append_left _ (List.mem_append_left _ (List.mem_append_left _ (List.mem_append_right _ (List.mem_singleton.2 rfl))))))))))
    dsimp only at hg4_15
    have hg4_19 := hG4 _ (List.mem_append_left _ (List.mem_append_left _ (List.mem_append_left _ (List.mem_append_left _ (List.mem_append_left _ (List.mem_append_left _ (List.mem_append_left _ (List.mem_append_right _ (List.mem_singleton.2 rfl)))))))))
    dsimp only at hg4_19
    have hg4_24 := hG4 _ (List.mem_append_left _ (List.mem_append_left _ (List.mem_append_left _ (List.mem_append_left _ (List.mem_append_left _ (List.mem_append_left _ (List.mem_append_right _ (List.mem_singleton.2 rfl))))))))
    dsimp only at hg4_24
    have hg4_25 := hG4 _ (List.mem_append_left _ (List.mem_append_left _ (List.mem_append_left _ (List.mem_append_left _ (List.mem_append_left _ (List.mem_append_right _ (List.mem_singleton.2 rfl)))))))
    dsimp only at hg4_25
    have hg4_31 := hG4 _ (List.mem_append_left _ (List.mem_append_left _ (List.mem_append_left _ (List.mem_append_left _ (List.mem_append_right _ (List.mem_singleton.2 rfl))))))
    dsimp only at hg4_31
    have hg4_36 := hG4 _ (List.mem_append_left _ (List.mem_append_left _ (List.mem_append_left _ (List.mem_append_right _ (List.mem_singleton.2 rfl)))))
    dsimp only at hg4_36
    have hg4_37 := hG4 _ (List.mem_append_left _ (List.mem_append_left _ (List.mem_append_right _ (List.mem_singleton.2 rfl))))
    dsimp only at hg4_37
    have hg4_38 := hG4 _ (List.mem_append_left _ (List.mem_append_right _ (List.mem_singleton.2 rfl)))
    dsimp only at hg4_38
    have hg4_39 := hG4 _ (List.mem_append_right _ (List.mem_singleton.2 rfl))
    dsimp only at hg4_39
    clear hG4 hA4
    simp only [List.drop_succ_cons, List.drop_zero]
    have hz4 := hb4.size
    (try simp only [World.size_alloc, World.size_setCell, World.size_drew, World.size_drewN'] at hz4)
    obtain ⟨b7, a7, n7, c7, e7, h7, f7⟩ := hg4_39
    simp only [e7]
    clear e7
    have H_C_4 := (hb4.block (w.heap.size) (blk_lt' H_C_3.out)).trans H_C_3.out
    clear k_C_3_0 k_C_3_1 f_C_3 H_C_3
    obtain ⟨k_C_4_0, k_C_4_1, f_C_4, l_C_4⟩ := bk2 H_C_4
    replace H_C_4 := Lib.hid H_C_4
    have H_O_4 := (hb4.block (w.heap.size + 1 + 1) (blk_lt' H_O_3.out)).trans H_O_3.out
    clear k_O_3_0 k_O_3_1 f_O_3 H_O_3
    obtain ⟨k_O_4_0, k_O_4_1, f_O_4, l_O_4⟩ := bk2 H_O_4
    replace H_O_4 := Lib.hid H_O_4
    have H_X_4 := (hb4.block (gx) (blk_lt' H_X_3.out)).trans H_X_3.out
    clear k_X_3_0 k_X_3_1 f_X_3 H_X_3
    obtain ⟨k_X_4_0, k_X_4_1, f_X_4, l_X_4⟩ := bk2 H_X_4
    replace H_X_4 := Lib.hid H_X_4
    have H_Z_4 := (hb4.block (gz) (blk_lt' H_Z_3.out)).trans H_Z_3.out
    clear k_Z_3_0 k_Z_3_1 f_Z_3 H_Z_3
    obtain ⟨k_Z_4_0, k_Z_4_1, f_Z_4, l_Z_4⟩ := bk2 H_Z_4
    replace H_Z_4 := Lib.hid H_Z_4
    replace hx := hx.below hb4
    replace hz := hz.below hb4
    have hB4 : Below w.heap.size w w4 := below_via hb4 (by assumption) (by first | exact hB3.size | go_size)
    clear k_C_4_0
    clear k_C_4_1
    clear f_C_4 H_C_4
    clear k_X_4_0
    clear k_X_4_1
    clear f_X_4 H_X_4
    clear k_Z_4_0
    clear k_Z_4_1
    clear f_Z_4 H_Z_4
    clear hA hBB hAA hx hz lx lz mu1 mu2 mu3 mp1 mp2 mp3 mp4
    go_wp2_with fail
    refine bodyPost_ret (v := .agg #[.bool b7, .slice a7 n7 c7]) (by simp [results, Try.results54, go_sem, k_O_4_0, k_O_4_1]) rfl ⟨_, _, _, _, rfl, ?_, f7, ?_⟩
    · have HO := H_O_4.out
      (repeat' first | (with_reducible first | assumption | (apply Ne.symm; assumption) | apply Nat.le_refl | apply Nat.le_add_right | apply zL | apply zRf | apply Wx.box | apply Wx.box4 | apply zWa | apply Wx.drew | apply zWn | apply bx_drew | apply bx_drewN | apply bx_set3 | apply bx_set2 | apply bx_set4 | apply bx_set1) | ((with_reducible apply bx_new); (focus (go_size; done))) | (with_reducible first | apply zOl | apply zFa | apply zDn | apply zDr | apply zAl | apply zSt | refine zVi (by assumption) ?_ ?_) | go_size | omega)
    · (repeat' first | (with_reducible first | assumption | (apply Ne.symm; assumption) | apply Nat.le_refl | apply Nat.le_add_right | apply zL | apply zRf | apply Wx.box | apply Wx.box4 | apply zWa | apply Wx.drew | apply zWn | apply bx_drew | apply bx_drewN | apply bx_set3 | apply bx_set2 | apply bx_set4 | apply bx_set1) | ((with_reducible apply bx_new); (focus (go_size; done))) | (with_reducible first | apply zOl | apply zFa | apply zDn | apply zDr | apply zAl | apply zSt | refine zVi (by assumption) ?_ ?_) | go_size | omega)
end Go.Proofs.Ytijpfnkhaldfeaa
