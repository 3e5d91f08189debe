/- The lower sum of the doubling, and the divisor: the program. -/
import Derived.Test.YtijpfnkhaldfeaaWi5
import Derived.Test.YtijpfnkhaldfeaaEc2
namespace Go.Proofs.Ytijpfnkhaldfeaa
open Go.RowKit
set_option linter.unusedVariables false
set_option maxHeartbeats 1000000
set_option maxRecDepth 20000
set_option linter.unusedSimpArgs false
attribute [local go_sem] openAt openUpon
theorem denominatorOf_eq {A B x z t : Int} {b b2 : Bool} {a a2 : Option Addr} {n c n2 c2 : Nat} {w : World} (hA : -1000 ≤ A ∧ A ≤ 1000) (hBB : -10000 ≤ B ∧ B ≤ 10000) (hx : Wx w b a n c x) (hz : Wx w b2 a2 n2 c2 z) (lx' : ln x ≤ 80) (lz' : ln z ≤ 80) (et : botZ A B x z = t) :
    Calls Try.prog 51 #[.agg #[.int .i64 A, .int .i64 B], .agg #[.bool b, .slice a n c, .bool b2, .slice a2 n2 c2]] w (NewW w t) := by
  obtain ⟨p1, hp1⟩ : ∃ v, prodZ [x, x, x] 3 = v := ⟨_, rfl⟩
  obtain ⟨p2, hp2⟩ : ∃ v, prodZ [A, x, z, z] 4 = v := ⟨_, rfl⟩
  obtain ⟨p3, hp3⟩ : ∃ v, prodZ [B, z, z, z] 4 = v := ⟨_, rfl⟩
  obtain ⟨s, hs0⟩ : ∃ v, sumZ [p1, p2, p3] 3 = v := ⟨_, rfl⟩
  have RT := Lib.hid (show prodZ [4, z, s] 3 = t by
    rw [← et, ← bot_impl]; subst hp1 hp2 hp3 hs0; rfl)
  have lx : ln x ≤ 1500 := by omega
  have lz : ln z ≤ 1500 := by omega
  have g1 := ln_small (a := A) (by omega) (by omega)
  have g2 := ln_small (a := B) (by omega) (by omega)
  have g3 := ln_small (a := 4) (by omega) (by omega)
  have lA : ln A ≤ 1500 := by omega
  have lB : ln B ≤ 1500 := by omega
  have l4 : ln 4 ≤ 1500 := by omega
  have nA : ln A ≤ 80 := by omega
  have nB : ln B ≤ 80 := by omega
  have mp1' : ln p1 ≤ 400 := by rw [← hp1]; exact Nat.le_trans (prodZ_ln (all3 lx' lx' lx') 3) (by simp)
  have mp2' : ln p2 ≤ 400 := by rw [← hp2]; exact Nat.le_trans (prodZ_ln (all4 nA lx' lz' lz') 4) (by simp)
  have mp3' : ln p3 ≤ 400 := by rw [← hp3]; exact Nat.le_trans (prodZ_ln (all4 nB lz' lz' lz') 4) (by simp)
  have ms : ln s ≤ 1500 := by rw [← hs0]; exact Nat.le_trans (sumZ_ln (all3 mp1' mp2' mp3') 3) (by simp)
  have mp1 : ln p1 ≤ 1500 := by omega
  have mp2 : ln p2 ≤ 1500 := by omega
  have mp3 : ln p3 ≤ 1500 := by omega
  have P1 := Lib.hid hp1; have P2 := Lib.hid hp2; have P3 := Lib.hid hp3; have SS := Lib.hid hs0
  clear hp1 hp2 hp3 hs0 et g1 g2 g3 nA nB lx' lz' mp1' mp2' mp3'
  go_enter Try.func51, Try.ntmps51
  go_wp2_with fail
  refine chk (fun W => Below w.heap.size w W ∧ W.heap[w.heap.size]? = some (.cells #[.int .i64 A, .int .i64 B] 33 (0, 0)) ∧ W.heap[w.heap.size + 1]? = some (.cells #[.bool b, .slice a n c, .bool b2, .slice a2 n2 c2] 37 (0, 0)) ∧ W.heap[w.heap.size + 1 + 1]? = some (.cells #[.bool false, .slice none 0 0] 35 (0, 0)) ∧ Wx W b a n c x ∧ Wx W b2 a2 n2 c2 z) (by refine ⟨?_, ?_, ?_, ?_, ?_, ?_⟩ <;> (repeat' first | (with_reducible first | assumption | (apply Ne.symm; assumption) | apply Nat.le_refl | apply Nat.le_add_right | apply zL | apply zRf | apply Wx.box | apply Wx.box4 | apply zWa | apply Wx.drew | apply zWn | apply bx_drew | apply bx_drewN | apply bx_set3 | apply bx_set2 | apply bx_set4 | apply bx_set1) | ((with_reducible apply bx_new); (focus (go_size; done))) | (with_reducible first | apply zOl | apply zFa | apply zDn | apply zDr | apply zAl | apply zSt | refine zVi (by assumption) ?_ ?_) | go_size | omega)) ?_
  try clear hx
  try clear hz
  rintro w1 ⟨hB1, H_C_1, H_R_1, H_O_1, hx', hz'⟩
  obtain ⟨k_C_1_0, k_C_1_1, f_C_1, l_C_1⟩ := bk2 H_C_1
  replace H_C_1 := Lib.hid H_C_1
  obtain ⟨k_R_1_0, k_R_1_1, k_R_1_2, k_R_1_3, f_R_1, l_R_1⟩ := bk4 H_R_1
  replace H_R_1 := Lib.hid H_R_1
  obtain ⟨k_O_1_0, k_O_1_1, f_O_1, l_O_1⟩ := bk2 H_O_1
  replace H_O_1 := Lib.hid H_O_1
  have hx := hx'
  clear hx'
  have hz := hz'
  clear hz'
  go_region
  go_wp2_with fail
  replace H_C_1 := H_C_1.out
  replace H_R_1 := H_R_1.out
  replace H_O_1 := H_O_1.out
  refine chk (fun W => Below w.heap.size w W ∧ W.heap[w.heap.size]? = some (.cells #[.int .i64 A, .int .i64 B] 33 (0, 0)) ∧ W.heap[w.heap.size + 1 + 1]? = some (.cells #[.bool false, .slice none 0 0] 35 (0, 0)) ∧ W.heap[w1.heap.size]? = some (.cells #[.bool b, .slice a n c] 35 (0, 0)) ∧ W.heap[w1.heap.size + 1]? = some (.cells #[.bool b2, .slice a2 n2 c2] 35 (0, 0)) ∧ Wx W b a n c x ∧ Wx W b2 a2 n2 c2 z) (by refine ⟨?_, ?_, ?_, ?_, ?_, ?_, ?_⟩ <;> (repeat' first | (with_reducible first | assumption | (apply Ne.symm; assumption) | apply Nat.le_refl | apply Nat.le_add_right | apply zL | apply zRf | apply Wx.box | apply Wx.box4 | apply zWa | apply Wx.drew | apply zWn | apply bx_drew | apply bx_drewN | apply bx_set3 | apply bx_set2 | apply bx_set4 | apply bx_set1) | ((with_reducible apply bx_new); (focus (go_size; done))) | (with_reducible first | apply zOl | apply zFa | apply zDn | apply zDr | apply zAl | apply zSt | refine zVi (by assumption) ?_ ?_) | go_size | omega)) ?_
  try clear hx
  try clear hz
  clear k_C_1_0 k_C_1_1 f_C_1 H_C_1
  clear k_R_1_0 k_R_1_1 k_R_1_2 k_R_1_3 f_R_1 H_R_1
  clear k_O_1_0 k_O_1_1 f_O_1 H_O_1
  clear hB1
  rintro w3 ⟨hB3, H_C_3, H_O_3, H_X_3, H_Z_3, hx', hz'⟩
  obtain ⟨k_C_3_0, k_C_3_1, f_C_3, l_C_3⟩ := bk2 H_C_3
  replace H_C_3 := Lib.hid H_C_3
  obtain ⟨k_O_3_0, k_O_3_1, f_O_3, l_O_3⟩ := bk2 H_O_3
  replace H_O_3 := Lib.hid H_O_3
  obtain ⟨k_X_3_0, k_X_3_1, f_X_3, l_X_3⟩ := bk2 H_X_3
  replace H_X_3 := Lib.hid H_X_3
  obtain ⟨k_Z_3_0, k_Z_3_1, f_Z_3, l_Z_3⟩ := bk2 H_Z_3
  replace H_Z_3 := Lib.hid H_Z_3
  have hx := hx'
  clear hx'
  have hz := hz'
  clear hz'
  generalize w1.heap.size + 1 = gz at *
  generalize w1.heap.size = gx at *
  clear w1
  rotate_left
  go_wp2_with fail
  replace H_C_1 := H_C_1.out
  replace H_R_1 := H_R_1.out
  replace H_O_1 := H_O_1.out
  refine chk (fun W => Below w.heap.size w W ∧ W.heap[w.heap.size]? = some (.cells #[.int .i64 A, .int .i64 B] 33 (0, 0)) ∧ W.heap[w.heap.size + 1 + 1]? = some (.cells #[.bool false, .slice none 0 0] 35 (0, 0)) ∧ W.heap[w1.heap.size + 1]? = some (.cells #[.bool b, .slice a n c] 35 (0, 0)) ∧ W.heap[w1.heap.size]? = some (.cells #[.bool b2, .slice a2 n2 c2] 35 (0, 0)) ∧ Wx W b a n c x ∧ Wx W b2 a2 n2 c2 z) (by refine ⟨?_, ?_, ?_, ?_, ?_, ?_, ?_⟩ <;> (repeat' first | (with_reducible first | assumption | (apply Ne.symm; assumption) | apply Nat.le_refl | apply Nat.le_add_right | apply zL | apply zRf | apply Wx.box | apply Wx.box4 | apply zWa | apply Wx.drew | apply zWn | apply bx_drew | apply bx_drewN | apply bx_set3 | apply bx_set2 | apply bx_set4 | apply bx_set1) | ((with_reducible apply bx_new); (focus (go_size; done))) | (with_reducible first | apply zOl | apply zFa | apply zDn | apply zDr | apply zAl | apply zSt | refine zVi (by assumption) ?_ ?_) | go_size | omega)) ?_
  try clear hx
  try clear hz
  clear k_C_1_0 k_C_1_1 f_C_1 H_C_1
  clear k_R_1_0 k_R_1_1 k_R_1_2 k_R_1_3 f_R_1 H_R_1
  clear k_O_1_0 k_O_1_1 f_O_1 H_O_1
  clear hB1
  rintro w3 ⟨hB3, H_C_3, H_O_3, H_X_3, H_Z_3, hx', hz'⟩
  obtain ⟨k_C_3_0, k_C_3_1, f_C_3, l_C_3⟩ := bk2 H_C_3
  replace H_C_3 := Lib.hid H_C_3
  obtain ⟨k_O_3_0, k_O_3_1, f_O_3, l_O_3⟩ := bk2 H_O_3
  replace H_O_3 := Lib.hid H_O_3
  obtain ⟨k_X_3_0, k_X_3_1, f_X_3, l_X_3⟩ := bk2 H_X_3
  replace H_X_3 := Lib.hid H_X_3
  obtain ⟨k_Z_3_0, k_Z_3_1, f_Z_3, l_Z_3⟩ := bk2 H_Z_3
  replace H_Z_3 := Lib.hid H_Z_3
  have hx := hx'
  clear hx'
  have hz := hz'
  clear hz'
  generalize w1.heap.size + 1 = gx at *
  generalize w1.heap.size = gz at *
  clear w1
  all_goals
    refine wp_open (n := 24) (by kernel_rfl) (by kernel_rfl) (by kernel_rfl) (by kernel_rfl) ?_
    simp only [List.take_succ_cons, List.take_zero]
    apply wpS_quiet
    · intro γ W hW hp
      have hs := hW.size
      (try simp only [World.size_alloc, World.size_setCell, World.size_drew, World.size_drewN'] at hs)
      have kx_0 := fun x : Over W => ((cellAt x.lies (gx) (by omega) 0).trans (cellAt hW (gx) (by first | omega | go_size) 0)).trans k_X_3_0
      have kx_1 := fun x : Over W => ((cellAt x.lies (gx) (by omega) 1).trans (cellAt hW (gx) (by first | omega | go_size) 1)).trans k_X_3_1
      clear hW hp
      refine ⟨rfl, ?_⟩
      go_big_quiet_op
      first | exact rfl
    · exact locS_const _
    try simp only [Act.put, List.setIfInBounds_toArray, List.set_cons_succ, List.set_cons_zero, Nat.reduceAdd]
    apply wpS_quiet
    · intro γ W hW hp
      have hs := hW.size
      (try simp only [World.size_alloc, World.size_setCell, World.size_drew, World.size_drewN'] at hs)
      have kx_0 := fun x : Over W => ((cellAt x.lies (gx) (by omega) 0).trans (cellAt hW (gx) (by first | omega | go_size) 0)).trans k_X_3_0
      have kx_1 := fun x : Over W => ((cellAt x.lies (gx) (by omega) 1).trans (cellAt hW (gx) (by first | omega | go_size) 1)).trans k_X_3_1
      clear hW hp
      refine ⟨rfl, ?_⟩
      go_big_quiet_op
      first | exact rfl
    · exact locS_const _
    try simp only [Act.put, List.setIfInBounds_toArray, List.set_cons_succ, List.set_cons_zero, Nat.reduceAdd]
    apply wpS_quiet
    · intro γ W hW hp
      have hs := hW.size
      (try simp only [World.size_alloc, World.size_setCell, World.size_drew, World.size_drewN'] at hs)
      have kx_0 := fun x : Over W => ((cellAt x.lies (gx) (by omega) 0).trans (cellAt hW (gx) (by first | omega | go_size) 0)).trans k_X_3_0
      have kx_1 := fun x : Over W => ((cellAt x.lies (gx) (by omega) 1).trans (cellAt hW (gx) (by first | omega | go_size) 1)).trans k_X_3_1
      clear hW hp
      refine ⟨rfl, ?_⟩
      go_big_quiet_op
      first | exact rfl
    · exact locS_const _
    try simp only [Act.put, List.setIfInBounds_toArray, List.set_cons_succ, List.set_cons_zero, Nat.reduceAdd]
    apply wpS_open (openL 3 [x, x, x])
    · intro γ W hW hp
      refine ⟨rfl, ?_⟩
      go_simp
      exact ⟨⟨⟨_, rfl, LxAt.new3 (hx.below hW) (hx.below hW) (hx.below hW)⟩, fun e => by cases e⟩, (Below.refl _ _).alloc (Nat.le_refl _) _⟩
    try simp only [Act.put, List.setIfInBounds_toArray, List.set_cons_succ, List.set_cons_zero, Nat.reduceAdd]
    apply wpS_open (openW w.heap.size p1)
    · intro γ W hW hp
      have hp_3 := hp _ (List.mem_append_right _ (List.mem_singleton.2 rfl)) (by kernel_rfl)
      dsimp only at hp_3
      refine ⟨rfl, ?_⟩
      go_simp
      refine plainNew rfl ?_
      obtain ⟨g3, e3, h3⟩ := hp_3
      rw [e3]
      exact open_W (productWholes_eq h3 rfl (by omega) P1.out (all3 lx lx lx)) (by (have := hW.size; (try simp only [World.size_alloc, World.size_setCell, World.size_drew, World.size_drewN'] at this); omega))
    try simp only [Act.put, List.setIfInBounds_toArray, List.set_cons_succ, List.set_cons_zero, Nat.reduceAdd]
    apply wpS_quiet
    · intro γ W hW hp
      refine ⟨rfl, ?_⟩
      go_big_quiet_op
      first | exact rfl
    · exact locS_const _
    try simp only [Act.put, List.setIfInBounds_toArray, List.set_cons_succ, List.set_cons_zero, Nat.reduceAdd]
    apply wpS_quiet
    · intro γ W hW hp
      have hs := hW.size
      (try simp only [World.size_alloc, World.size_setCell, World.size_drew, World.size_drewN'] at hs)
      have kx_0 := fun x : Over W => ((cellAt x.lies (w.heap.size) (by omega) 0).trans (cellAt hW (w.heap.size) (by first | omega | go_size) 0)).trans k_C_3_0
      have kx_1 := fun x : Over W => ((cellAt x.lies (w.heap.size) (by omega) 1).trans (cellAt hW (w.heap.size) (by first | omega | go_size) 1)).trans k_C_3_1
      clear hW hp
      refine ⟨rfl, ?_⟩
      go_big_quiet_op
      first | exact rfl
    · exact locS_const _
    try simp only [Act.put, List.setIfInBounds_toArray, List.set_cons_succ, List.set_cons_zero, Nat.reduceAdd]
    apply wpS_open (openW w.heap.size A)
    · intro γ W hW hp
      refine ⟨rfl, ?_⟩
      go_simp
      refine plainNew rfl ?_
      exact open_W (wholeOf_any A W (by omega) (by omega)) (by (have := hW.size; (try simp only [World.size_alloc, World.size_setCell, World.size_drew, World.size_drewN'] at this); omega))
    try simp only [Act.put, List.setIfInBounds_toArray, List.set_cons_succ, List.set_cons_zero, Nat.reduceAdd]
    apply wpS_quiet
    · intro γ W hW hp
      have hs := hW.size
      (try simp only [World.size_alloc, World.size_setCell, World.size_drew, World.size_drewN'] at hs)
      have kx_0 := fun x : Over W => ((cellAt x.lies (gx) (by omega) 0).trans (cellAt hW (gx) (by first | omega | go_size) 0)).trans k_X_3_0
      have kx_1 := fun x : Over W => ((cellAt x.lies (gx) (by omega) 1).trans (cellAt hW (gx) (by first | omega | go_size) 1)).trans k_X_3_1
      clear hW hp
      refine ⟨rfl, ?_⟩
      go_big_quiet_op
      first | exact rfl
    · exact locS_const _
    try simp only [Act.put, List.setIfInBounds_toArray, List.set_cons_succ, List.set_cons_zero, Nat.reduceAdd]
    apply wpS_quiet
    · intro γ W hW hp
      have hs := hW.size
      (try simp only [World.size_alloc, World.size_setCell, World.size_drew, World.size_drewN'] at hs)
      have kx_0 := fun x : Over W => ((cellAt x.lies (gz) (by omega) 0).trans (cellAt hW (gz) (by first | omega | go_size) 0)).trans k_Z_3_0
      have kx_1 := fun x : Over W => ((cellAt x.lies (gz) (by omega) 1).trans (cellAt hW (gz) (by first | omega | go_size) 1)).trans k_Z_3_1
      clear hW hp
      refine ⟨rfl, ?_⟩
      go_big_quiet_op
      first | exact rfl
    · exact locS_const _
    try simp only [Act.put, List.setIfInBounds_toArray, List.set_cons_succ, List.set_cons_zero, Nat.reduceAdd]
    apply wpS_quiet
    · intro γ W hW hp
      have hs := hW.size
      (try simp only [World.size_alloc, World.size_setCell, World.size_drew, World.size_drewN'] at hs)
      have kx_0 := fun x : Over W => ((cellAt x.lies (gz) (by omega) 0).trans (cellAt hW (gz) (by first | omega | go_size) 0)).trans k_Z_3_0
      have kx_1 := fun x : Over W => ((cellAt x.lies (gz) (by omega) 1).trans (cellAt hW (gz) (by first | omega | go_size) 1)).trans k_Z_3_1
      clear hW hp
      refine ⟨rfl, ?_⟩
      go_big_quiet_op
      first | exact rfl
    · exact locS_const _
    try simp only [Act.put, List.setIfInBounds_toArray, List.set_cons_succ, List.set_cons_zero, Nat.reduceAdd]
    apply wpS_open (openL 4 [A, x, z, z])
    · intro γ W hW hp
      have hp_7 := hp _ (List.mem_append_right _ (List.mem_singleton.2 rfl)) (by kernel_rfl)
      dsimp only at hp_7
      refine ⟨rfl, ?_⟩
      obtain ⟨b3, a3, n3, c3, e3, h3, _⟩ := hp_7
      rw [e3]
      go_simp
      exact ⟨⟨⟨_, rfl, LxAt.new4 h3 (hx.below hW) (hz.below hW) (hz.below hW)⟩, fun e => by cases e⟩, (Below.refl _ _).alloc (Nat.le_refl _) _⟩
    try simp only [Act.put, List.setIfInBounds_toArray, List.set_cons_succ, List.set_cons_zero, Nat.reduceAdd]
    apply wpS_open (openW w.heap.size p2)
    · intro γ W hW hp
      have hp_11 := hp _ (List.mem_append_right _ (List.mem_singleton.2 rfl)) (by kernel_rfl)
      dsimp only at hp_11
      refine ⟨rfl, ?_⟩
      go_simp
      refine plainNew rfl ?_
      obtain ⟨g3, e3, h3⟩ := hp_11
      rw [e3]
      exact open_W (productWholes_eq h3 rfl (by omega) P2.out (all4 lA lx lz lz)) (by (have := hW.size; (try simp only [World.size_alloc, World.size_setCell, World.size_drew, World.size_drewN'] at this); omega))
    try simp only [Act.put, List.setIfInBounds_toArray, List.set_cons_succ, List.set_cons_zero, Nat.reduceAdd]
    apply wpS_quiet
    · intro γ W hW hp
      refine ⟨rfl, ?_⟩
      go_big_quiet_op
      first | exact rfl
    · exact locS_const _
    try simp only [Act.put, List.setIfInBounds_toArray, List.set_cons_succ, List.set_cons_zero, Nat.reduceAdd]
    apply wpS_quiet
    · intro γ W hW hp
      have hs := hW.size
      (try simp only [World.size_alloc, World.size_setCell, World.size_drew, World.size_drewN'] at hs)
      have kx_0 := fun x : Over W => ((cellAt x.lies (w.heap.size) (by omega) 0).trans (cellAt hW (w.heap.size) (by first | omega | go_size) 0)).trans k_C_3_0
      have kx_1 := fun x : Over W => ((cellAt x.lies (w.heap.size) (by omega) 1).trans (cellAt hW (w.heap.size) (by first | omega | go_size) 1)).trans k_C_3_1
      clear hW hp
      refine ⟨rfl, ?_⟩
      go_big_quiet_op
      first | exact rfl
    · exact locS_const _
    try simp only [Act.put, List.setIfInBounds_toArray, List.set_cons_succ, List.set_cons_zero, Nat.reduceAdd]
    apply wpS_open (openW w.heap.size B)
    · intro γ W hW hp
      refine ⟨rfl, ?_⟩
      go_simp
      refine plainNew rfl ?_
      exact open_W (wholeOf_any B W (by omega) (by omega)) (by (have := hW.size; (try simp only [World.size_alloc, World.size_setCell, World.size_drew, World.size_drewN'] at this); omega))
    try simp only [Act.put, List.setIfInBounds_toArray, List.set_cons_succ, List.set_cons_zero, Nat.reduceAdd]
    apply wpS_quiet
    · intro γ W hW hp
      have hs := hW.size
      (try simp only [World.size_alloc, World.size_setCell, World.size_drew, World.size_drewN'] at hs)
      have kx_0 := fun x : Over W => ((cellAt x.lies (gz) (by omega) 0).trans (cellAt hW (gz) (by first | omega | go_size) 0)).trans k_Z_3_0
      have kx_1 := fun x : Over W => ((cellAt x.lies (gz) (by omega) 1).trans (cellAt hW (gz) (by first | omega | go_size) 1)).trans k_Z_3_1
      clear hW hp
      refine ⟨rfl, ?_⟩
      go_big_quiet_op
      first | exact rfl
    · exact locS_const _
    try simp only [Act.put, List.setIfInBounds_toArray, List.set_cons_succ, List.set_cons_zero, Nat.reduceAdd]
    apply wpS_quiet
    · intro γ W hW hp
      have hs := hW.size
      (try simp only [World.size_alloc, World.size_setCell, World.size_drew, World.size_drewN'] at hs)
      have kx_0 := fun x : Over W => ((cellAt x.lies (gz) (by omega) 0).trans (cellAt hW (gz) (by first | omega | go_size) 0)).trans k_Z_3_0
      have kx_1 := fun x : Over W => ((cellAt x.lies (gz) (by omega) 1).trans (cellAt hW (gz) (by first | omega | go_size) 1)).trans k_Z_3_1
      clear hW hp
      refine ⟨rfl, ?_⟩
      go_big_quiet_op
      first | exact rfl
    · exact locS_const _
    try simp only [Act.put, List.setIfInBounds_toArray, List.set_cons_succ, List.set_cons_zero, Nat.reduceAdd]
    apply wpS_quiet
    · intro γ W hW hp
      have hs := hW.size
      (try simp only [World.size_alloc, World.size_setCell, World.size_drew, World.size_drewN'] at hs)
      have kx_0 := fun x : Over W => ((cellAt x.lies (gz) (by omega) 0).trans (cellAt hW (gz) (by first | omega | go_size) 0)).trans k_Z_3_0
      have kx_1 := fun x : Over W => ((cellAt x.lies (gz) (by omega) 1).trans (cellAt hW (gz) (by first | omega | go_size) 1)).trans k_Z_3_1
      clear hW hp
      refine ⟨rfl, ?_⟩
      go_big_quiet_op
      first | exact rfl
    · exact locS_const _
    try simp only [Act.put, List.setIfInBounds_toArray, List.set_cons_succ, List.set_cons_zero, Nat.reduceAdd]
    apply wpS_open (openL 4 [B, z, z, z])
    · intro γ W hW hp
      have hp_15 := hp _ (List.mem_append_right _ (List.mem_singleton.2 rfl)) (by kernel_rfl)
      dsimp only at hp_15
      refine ⟨rfl, ?_⟩
      obtain ⟨b3, a3, n3, c3, e3, h3, _⟩ := hp_15
      rw [e3]
      go_simp
      exact ⟨⟨⟨_, rfl, LxAt.new4 h3 (hz.below hW) (hz.below hW) (hz.below hW)⟩, fun e => by cases e⟩, (Below.refl _ _).alloc (Nat.le_refl _) _⟩
    try simp only [Act.put, List.setIfInBounds_toArray, List.set_cons_succ, List.set_cons_zero, Nat.reduceAdd]
    apply wpS_open (openW w.heap.size p3)
    · intro γ W hW hp
      have hp_19 := hp _ (List.mem_append_right _ (List.mem_singleton.2 rfl)) (by kernel_rfl)
      dsimp only at hp_19
      refine ⟨rfl, ?_⟩
      go_simp
      refine plainNew rfl ?_
      obtain ⟨g3, e3, h3⟩ := hp_19
      rw [e3]
      exact open_W (productWholes_eq h3 rfl (by omega) P3.out (all4 lB lz lz lz)) (by (have := hW.size; (try simp only [World.size_alloc, World.size_setCell, World.size_drew, World.size_drewN'] at this); omega))
    try simp only [Act.put, List.setIfInBounds_toArray, List.set_cons_succ, List.set_cons_zero, Nat.reduceAdd]
    apply wpS_open (openL 3 [p1, p2, p3])
    · intro γ W hW hp
      have hp_4 := hp _ (List.mem_append_left _ (List.mem_append_left _ (List.mem_append_left _ (List.mem_append_left _ (List.mem_append_left _ (List.mem_append_left _ (List.mem_append_right _ (List.mem_singleton.2 rfl)))))))) (by kernel_rfl)
      dsimp only at hp_4
      have hp_12 := hp _ (List.mem_append_left _ (List.mem_append_left _ (List.mem_append_left _ (List.mem_append_right _ (List.mem_singleton.2 rfl))))) (by kernel_rfl)
      dsimp only at hp_12
      have hp_20 := hp _ (List.mem_append_right _ (List.mem_singleton.2 rfl)) (by kernel_rfl)
      dsimp only at hp_20
      refine ⟨rfl, ?_⟩
      obtain ⟨b3, a3, n3, c3, e3, h3, _⟩ := hp_4
      obtain ⟨b4, a4, n4, c4, e4, h4, _⟩ := hp_12
      obtain ⟨b5, a5, n5, c5, e5, h5, _⟩ := hp_20
      rw [e3, e4, e5]
      go_simp
      exact ⟨⟨⟨_, rfl, LxAt.new3 h3 h4 h5⟩, fun e => by cases e⟩, (Below.refl _ _).alloc (Nat.le_refl _) _⟩
    try simp only [Act.put, List.setIfInBounds_toArray, List.set_cons_succ, List.set_cons_zero, Nat.reduceAdd]
    apply wpS_open (openW w.heap.size s)
    · intro γ W hW hp
      have hp_21 := hp _ (List.mem_append_right _ (List.mem_singleton.2 rfl)) (by kernel_rfl)
      dsimp only at hp_21
      refine ⟨rfl, ?_⟩
      go_simp
      refine plainNew rfl ?_
      obtain ⟨g3, e3, h3⟩ := hp_21
      rw [e3]
      exact open_W (sumWholes_eq h3 rfl (by omega) SS.out (all3 mp1 mp2 mp3)) (by (have := hW.size; (try simp only [World.size_alloc, World.size_setCell, World.size_drew, World.size_drewN'] at this); omega))
    try simp only [Act.put, List.setIfInBounds_toArray, List.set_cons_succ, List.set_cons_zero, Nat.reduceAdd]
    apply wpS_open (newBox _ _ _)
    · intro γ W hW hp
      refine ⟨rfl, ?_⟩
      go_simp
      exact ⟨⟨⟨_, rfl, hW.size, heap_alloc_new _ _⟩, fun _ => ⟨_, rfl, Nat.le_refl _, by simp⟩⟩, (Below.refl _ _).alloc (Nat.le_refl _) _⟩
    try simp only [Act.put, List.setIfInBounds_toArray, List.set_cons_succ, List.set_cons_zero, Nat.reduceAdd]
    apply wpS_end
    intro γ w4 hb4 hG4 hA4
    have hg4_3 := hG4 _ (List.mem_append_left _ (List.mem_append_left _ (List.mem_append_left _ (List.mem_append_left _ (List.mem_append_left _ (List.mem_append_left _ (List.mem_append_left _ (List.mem_append_left _ (List.mem_append_left _ (List.mem_append_left _ (List.mem_append_right _ (List.mem_singleton.2 rfl))))))))))))
    dsimp only at hg4_3
    have hg4_4 := hG4 _ (List.mem_append_left _ (List.mem_append_left _ (List.mem_append_left _ (List.mem_append_left _ (List.mem_append_left _ (List.mem_append_left _ (List.mem_append_left _ (List.mem_append_left _ (List.mem_append_left _ (List.mem_append_right _ (List.mem_singleton.2 rfl)))))))))))
    dsimp only at hg4_4
    have hg4_7 := hG4 _ (List.mem_append_left _ (List.mem_append_left _ (List.mem_append_left _ (List.mem_append_left _ (List.mem_append_left _ (List.mem_append_left _ (List.mem_append_left _ (List.mem_append_left _ (List.mem_append_right _ (List.mem_singleton.2 rfl))))))))))
    dsimp only at hg4_7
    have hg4_11 := hG4 _ (List.mem_append_left _ (List.mem_append_left _ (List.mem_append_left _ (List.mem_append_left _ (List.mem_append_left _ (List.mem_append_left _ (List.mem_append_left _ (List.mem_append_right _ (List.mem_singleton.2 rfl)))))))))
    dsimp only at hg4_11
    have hg4_12 := hG4 _ (List.mem_append_left _ (List.mem_append_left _ (List.mem_append_left _ (List.mem_append_left _ (List.mem_append_left _ (List.mem_append_left _ (List.mem_append_right _ (List.mem_singleton.2 rfl))))))))
    dsimp only at hg4_12
    have hg4_15 := hG4 _ (List.mem_append_left _ (List.mem_append_left _ (List.mem_append_left _ (List.mem_append_left _ (List.mem_append_left _ (List.mem_append_right _ (List.mem_singleton.2 rfl)))))))
    dsimp only at hg4_15
    have hg4_19 := hG4 _ (List.mem_append_left _ (List.mem_append_left _ (List.mem_append_left _ (List.mem_append_left _ (List.mem_append_right _ (List.mem_singleton.2 rfl))))))
    dsimp only at hg4_19
    have hg4_20 := hG4 _ (List.mem_append_left _ (List.mem_append_left _ (List.mem_append_left _ (List.mem_append_right _ (List.mem_singleton.2 rfl)))))
    dsimp only at hg4_20
    have hg4_21 := hG4 _ (List.mem_append_left _ (List.mem_append_left _ (List.mem_append_right _ (List.mem_singleton.2 rfl))))
    dsimp only at hg4_21
    have hg4_22 := hG4 _ (List.mem_append_left _ (List.mem_append_right _ (List.mem_singleton.2 rfl)))
    dsimp only at hg4_22
    obtain ⟨g4_23, e4_23, l4_23, k4_23⟩ := hG4 _ (List.mem_append_right _ (List.mem_singleton.2 rfl))
    dsimp only at e4_23 l4_23 k4_23
    have kb4_23 := fun o => blk_cell k4_23 o
    have fb4_23 := fun o => blk_frozen k4_23 o
    have lb4_23 := blk_lt' k4_23
    have ne4_23_C : w.heap.size ≠ g4_23 := Nat.ne_of_lt (Nat.lt_of_lt_of_le l_C_3 l4_23)
    have ne4_23_O : w.heap.size + 1 + 1 ≠ g4_23 := Nat.ne_of_lt (Nat.lt_of_lt_of_le l_O_3 l4_23)
    have ne4_23_X : gx ≠ g4_23 := Nat.ne_of_lt (Nat.lt_of_lt_of_le l_X_3 l4_23)
    have ne4_23_Z : gz ≠ g4_23 := Nat.ne_of_lt (Nat.lt_of_lt_of_le l_Z_3 l4_23)
    have lw4_23 : w.heap.size ≤ g4_23 := Nat.le_trans hB3.size l4_23
    clear hG4 hA4
    try simp only [e4_23]
    clear e4_23
    simp only [List.drop_succ_cons, List.drop_zero]
    have hz4 := hb4.size
    (try simp only [World.size_alloc, World.size_setCell, World.size_drew, World.size_drewN'] at hz4)
    obtain ⟨b5, a5, n5, c5, e5, hs, -⟩ := hg4_22
    simp only [e5]
    clear e5
    have H_C_4 := (hb4.block (w.heap.size) (blk_lt' H_C_3.out)).trans H_C_3.out
    clear k_C_3_0 k_C_3_1 f_C_3 H_C_3
    obtain ⟨k_C_4_0, k_C_4_1, f_C_4, l_C_4⟩ := bk2 H_C_4
    replace H_C_4 := Lib.hid H_C_4
    have H_O_4 := (hb4.block (w.heap.size + 1 + 1) (blk_lt' H_O_3.out)).trans H_O_3.out
    clear k_O_3_0 k_O_3_1 f_O_3 H_O_3
    obtain ⟨k_O_4_0, k_O_4_1, f_O_4, l_O_4⟩ := bk2 H_O_4
    replace H_O_4 := Lib.hid H_O_4
    have H_X_4 := (hb4.block (gx) (blk_lt' H_X_3.out)).trans H_X_3.out
    clear k_X_3_0 k_X_3_1 f_X_3 H_X_3
    obtain ⟨k_X_4_0, k_X_4_1, f_X_4, l_X_4⟩ := bk2 H_X_4
    replace H_X_4 := Lib.hid H_X_4
    have H_Z_4 := (hb4.block (gz) (blk_lt' H_Z_3.out)).trans H_Z_3.out
    clear k_Z_3_0 k_Z_3_1 f_Z_3 H_Z_3
    obtain ⟨k_Z_4_0, k_Z_4_1, f_Z_4, l_Z_4⟩ := bk2 H_Z_4
    replace H_Z_4 := Lib.hid H_Z_4
    replace hx := hx.below hb4
    replace hz := hz.below hb4
    have hB4 : Below w.heap.size w w4 := below_via hb4 (by assumption) (by first | exact hB3.size | go_size)
    go_wp2_with fail
    replace H_C_4 := H_C_4.out
    replace H_O_4 := H_O_4.out
    replace H_X_4 := H_X_4.out
    replace H_Z_4 := H_Z_4.out
    refine chk (fun W => Below w.heap.size w W ∧ W.heap[w.heap.size + 1 + 1]? = some (.cells #[.bool false, .slice none 0 0] 35 (0, 0)) ∧ W.heap[gz]? = some (.cells #[.bool b2, .slice a2 n2 c2] 35 (0, 0)) ∧ W.heap[g4_23]? = some (.cells #[.bool b5, .slice a5 n5 c5] 35 (0, 0)) ∧ Wx W b2 a2 n2 c2 z ∧ Wx W b5 a5 n5 c5 s) (by refine ⟨?_, ?_, ?_, ?_, ?_, ?_⟩ <;> (repeat' first | (with_reducible first | assumption | (apply Ne.symm; assumption) | apply Nat.le_refl | apply Nat.le_add_right | apply zL | apply zRf | apply Wx.box | apply Wx.box4 | apply zWa | apply Wx.drew | apply zWn | apply bx_drew | apply bx_drewN | apply bx_set3 | apply bx_set2 | apply bx_set4 | apply bx_set1) | ((with_reducible apply bx_new); (focus (go_size; done))) | (with_reducible first | apply zOl | apply zFa | apply zDn | apply zDr | apply zAl | apply zSt | refine zVi (by assumption) ?_ ?_) | go_size | omega)) ?_
    try clear hz
    try clear hs
    clear k_C_4_0 k_C_4_1 f_C_4 H_C_4
    clear k_O_4_0 k_O_4_1 f_O_4 H_O_4
    clear k_X_4_0 k_X_4_1 f_X_4 H_X_4
    clear k_Z_4_0 k_Z_4_1 f_Z_4 H_Z_4
    clear hB4
    try clear kb4_23
    try clear fb4_23
    try clear k4_23
    rintro w5 ⟨hB5, H_O_5, H_Z_5, H_S_5, hz', hs'⟩
    obtain ⟨k_O_5_0, k_O_5_1, f_O_5, l_O_5⟩ := bk2 H_O_5
    replace H_O_5 := Lib.hid H_O_5
    obtain ⟨k_Z_5_0, k_Z_5_1, f_Z_5, l_Z_5⟩ := bk2 H_Z_5
    replace H_Z_5 := Lib.hid H_Z_5
    obtain ⟨k_S_5_0, k_S_5_1, f_S_5, l_S_5⟩ := bk2 H_S_5
    replace H_S_5 := Lib.hid H_S_5
    have hz := hz'
    clear hz'
    have hs := hs'
    clear hs'
    clear hA hBB hx lx mp1 mp2 mp3 lA lB
    refine wp_open (n := 5) (by kernel_rfl) (by kernel_rfl) (by kernel_rfl) (by kernel_rfl) ?_
    simp only [List.take_succ_cons, List.take_zero]
    apply wpS_open (openW w.heap.size 4)
    · intro γ W hW hp
      refine ⟨rfl, ?_⟩
      go_simp
      refine plainNew rfl ?_
      exact open_W (wholeOf_any 4 W (by omega) (by omega)) (by (have := hW.size; (try simp only [World.size_alloc, World.size_setCell, World.size_drew, World.size_drewN'] at this); omega))
    try simp only [Act.put, List.setIfInBounds_toArray, List.set_cons_succ, List.set_cons_zero, Nat.reduceAdd]
    apply wpS_quiet
    · intro γ W hW hp
      have hs := hW.size
      (try simp only [World.size_alloc, World.size_setCell, World.size_drew, World.size_drewN'] at hs)
      have kx_0 := fun x : Over W => ((cellAt x.lies (gz) (by omega) 0).trans (cellAt hW (gz) (by first | omega | go_size) 0)).trans k_Z_5_0
      have kx_1 := fun x : Over W => ((cellAt x.lies (gz) (by omega) 1).trans (cellAt hW (gz) (by first | omega | go_size) 1)).trans k_Z_5_1
      clear hW hp
      refine ⟨rfl, ?_⟩
      go_big_quiet_op
      first | exact rfl
    · exact locS_const _
    try simp only [Act.put, List.setIfInBounds_toArray, List.set_cons_succ, List.set_cons_zero, Nat.reduceAdd]
    apply wpS_quiet
    · intro γ W hW hp
      have hs := hW.size
      (try simp only [World.size_alloc, World.size_setCell, World.size_drew, World.size_drewN'] at hs)
      have kx_0 := fun x : Over W => ((cellAt x.lies (g4_23) (by omega) 0).trans (cellAt hW (g4_23) (by first | omega | go_size) 0)).trans k_S_5_0
      have kx_1 := fun x : Over W => ((cellAt x.lies (g4_23) (by omega) 1).trans (cellAt hW (g4_23) (by first | omega | go_size) 1)).trans k_S_5_1
      clear hW hp
      refine ⟨rfl, ?_⟩
      go_big_quiet_op
      first | exact rfl
    · exact locS_const _
    try simp only [Act.put, List.setIfInBounds_toArray, List.set_cons_succ, List.set_cons_zero, Nat.reduceAdd]
    apply wpS_open (openL 3 [4, z, s])
    · intro γ W hW hp
      have hp_0 := hp _ (List.mem_append_right _ (List.mem_singleton.2 rfl)) (by kernel_rfl)
      dsimp only at hp_0
      refine ⟨rfl, ?_⟩
      obtain ⟨b3, a3, n3, c3, e3, h3, _⟩ := hp_0
      rw [e3]
      go_simp
      exact ⟨⟨⟨_, rfl, LxAt.new3 h3 (hz.below hW) (hs.below hW)⟩, fun e => by cases e⟩, (Below.refl _ _).alloc (Nat.le_refl _) _⟩
    try simp only [Act.put, List.setIfInBounds_toArray, List.set_cons_succ, List.set_cons_zero, Nat.reduceAdd]
    apply wpS_open (openW w.heap.size t)
    · intro γ W hW hp
      have hp_3 := hp _ (List.mem_append_right _ (List.mem_singleton.2 rfl)) (by kernel_rfl)
      dsimp only at hp_3
      refine ⟨rfl, ?_⟩
      go_simp
      refine plainNew rfl ?_
      obtain ⟨g3, e3, h3⟩ := hp_3
      rw [e3]
      exact open_W (productWholes_eq h3 rfl (by omega) RT.out (all3 l4 lz ms)) (by (have := hW.size; (try simp only [World.size_alloc, World.size_setCell, World.size_drew, World.size_drewN'] at this); omega))
    try simp only [Act.put, List.setIfInBounds_toArray, List.set_cons_succ, List.set_cons_zero, Nat.reduceAdd]
    apply wpS_end
    intro γ w6 hb6 hG6 hA6
    have hg6_0 := hG6 _ (List.mem_append_left _ (List.mem_append_left _ (List.mem_append_right _ (List.mem_singleton.2 rfl))))
    dsimp only at hg6_0
    have hg6_3 := hG6 _ (List.mem_append_left _ (List.mem_append_right _ (List.mem_singleton.2 rfl)))
    dsimp only at hg6_3
    have hg6_4 := hG6 _ (List.mem_append_right _ (List.mem_singleton.2 rfl))
    dsimp only at hg6_4
    clear hG6 hA6
    simp only [List.drop_succ_cons, List.drop_zero]
    have hz6 := hb6.size
    (try simp only [World.size_alloc, World.size_setCell, World.size_drew, World.size_drewN'] at hz6)
    obtain ⟨b7, a7, n7, c7, e7, h7, f7⟩ := hg6_4
    simp only [e7]
    clear e7
    have H_O_6 := (hb6.block (w.heap.size + 1 + 1) (blk_lt' H_O_5.out)).trans H_O_5.out
    clear k_O_5_0 k_O_5_1 f_O_5 H_O_5
    obtain ⟨k_O_6_0, k_O_6_1, f_O_6, l_O_6⟩ := bk2 H_O_6
    replace H_O_6 := Lib.hid H_O_6
    have H_Z_6 := (hb6.block (gz) (blk_lt' H_Z_5.out)).trans H_Z_5.out
    clear k_Z_5_0 k_Z_5_1 f_Z_5 H_Z_5
    obtain ⟨k_Z_6_0, k_Z_6_1, f_Z_6, l_Z_6⟩ := bk2 H_Z_6
    replace H_Z_6 := Lib.hid H_Z_6
    have H_S_6 := (hb6.block (g4_23) (blk_lt' H_S_5.out)).trans H_S_5.out
    clear k_S_5_0 k_S_5_1 f_S_5 H_S_5
    obtain ⟨k_S_6_0, k_S_6_1, f_S_6, l_S_6⟩ := bk2 H_S_6
    replace H_S_6 := Lib.hid H_S_6
    replace hz := hz.below hb6
    replace hs := hs.below hb6
    have hB6 : Below w.heap.size w w6 := below_via hb6 (by assumption) (by first | exact hB5.size | go_size)
    clear k_Z_6_0
    clear k_Z_6_1
    clear f_Z_6 H_Z_6
    clear k_S_6_0
    clear k_S_6_1
    clear f_S_6 H_S_6
    try clear ne4_23_C
    try clear ne4_23_O
    try clear ne4_23_X
    try clear ne4_23_Z
    clear hz hs lz l4 ms
    iterate 24 (first | (with_reducible show bodyPost _ _ _ _ _ _) | (with_reducible refine wp_ret ?_) | go_values | go_skip | go_guarded | go_step | go_upon | go_back | skip)
    refine bodyPost_ret (v := .agg #[.bool b7, .slice a7 n7 c7]) (by simp [results, Try.results51, go_sem, k_O_6_0, k_O_6_1]) rfl ⟨_, _, _, _, rfl, ?_, f7, ?_⟩
    · have HO := H_O_6.out
      (repeat' first | (with_reducible first | assumption | (apply Ne.symm; assumption) | apply Nat.le_refl | apply Nat.le_add_right | apply zL | apply zRf | apply Wx.box | apply Wx.box4 | apply zWa | apply Wx.drew | apply zWn | apply bx_drew | apply bx_drewN | apply bx_set3 | apply bx_set2 | apply bx_set4 | apply bx_set1) | ((with_reducible apply bx_new); (focus (go_size; done))) | (with_reducible first | apply zOl | apply zFa | apply zDn | apply zDr | apply zAl | apply zSt | refine zVi (by assumption) ?_ ?_) | go_size | omega)
    · (repeat' first | (with_reducible first | assumption | (apply Ne.symm; assumption) | apply Nat.le_refl | apply Nat.le_add_right | apply zL | apply zRf | apply Wx.box | apply Wx.box4 | apply zWa | apply Wx.drew | apply zWn | apply bx_drew | apply bx_drewN | apply bx_set3 | apply bx_set2 | apply bx_set4 | apply bx_set1) | ((with_reducible apply bx_new); (focus (go_size; done))) | (with_reducible first | apply zOl | apply zFa | apply zDn | apply zDr | apply zAl | apply zSt | refine zVi (by assumption) ?_ ?_) | go_size | omega)
end Go.Proofs.Ytijpfnkhaldfeaa
