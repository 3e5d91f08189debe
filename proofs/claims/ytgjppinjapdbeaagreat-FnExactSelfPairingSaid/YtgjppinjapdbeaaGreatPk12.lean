/- Lemmas and contracts of functions. No condition. -/
import Derived.Test.YtgjppinjapdbeaaGreatPk5
import Derived.Test.YtgjppinjapdbeaaGreatPk10
import Derived.Test.YtgjppinjapdbeaaGreatPk11
namespace Go.Proofs.YtgjppinjapdbeaaGreat
section
open Go.RowKit
set_option linter.unusedVariables false
set_option maxHeartbeats 1000000
set_option maxRecDepth 20000
set_option linter.unusedSimpArgs false
attribute [local go_sem] openAt openUpon
theorem denominatorOf_eq {A B x z t : Int} {b b2 : Bool} {a a2 : Option Addr} {n c n2 c2 : Nat} {w : World} (hA : -1000 ≤ A ∧ A ≤ 1000) (hBB : -10000 ≤ B ∧ B ≤ 10000) (hx : Wx w b a n c x) (hz : Wx w b2 a2 n2 c2 z) (lx' : ln x ≤ 80) (lz' : ln z ≤ 80) (et : botZ A B x z = t) :
    Calls Tryz.prog 109 #[.agg #[.int .i64 A, .int .i64 B], .agg #[.bool b, .slice a n c, .bool b2, .slice a2 n2 c2]] w (NewW w t) := by
  obtain ⟨p1, hp1⟩ : ∃ v, prodZ [x, x, x] 3 = v := ⟨_, rfl⟩
  obtain ⟨p2, hp2⟩ : ∃ v, prodZ [A, x, z, z] 4 = v := ⟨_, rfl⟩
  obtain ⟨p3, hp3⟩ : ∃ v, prodZ [B, z, z, z] 4 = v := ⟨_, rfl⟩
  obtain ⟨s, hs0⟩ : ∃ v, sumZ [p1, p2, p3] 3 = v := ⟨_, rfl⟩
  have RT := Lib.hid (show prodZ [4, z, s] 3 = t by
    rw [← et, ← bot_impl]; subst hp1 hp2 hp3 hs0; rfl)
  have lx : ln x ≤ 1500 := by omega
  have lz : ln z ≤ 1500 := by omega
  have g1 := ln_small (a := A) (by omega) (by omega)
  have g2 := ln_small (a := B) (by omega) (by omega)
  have g3 := ln_small (a := 4) (by omega) (by omega)
  have lA : ln A ≤ 1500 := by omega
  have lB : ln B ≤ 1500 := by omega
  have l4 : ln 4 ≤ 1500 := by omega
  have nA : ln A ≤ 80 := by omega
  have nB : ln B ≤ 80 := by omega
  have mp1' : ln p1 ≤ 400 := by rw [← hp1]; exact Nat.le_trans (prodZ_ln (all3 lx' lx' lx') 3) (by simp)
  have mp2' : ln p2 ≤ 400 := by rw [← hp2]; exact Nat.le_trans (prodZ_ln (all4 nA lx' lz' lz') 4) (by simp)
  have mp3' : ln p3 ≤ 400 := by rw [← hp3]; exact Nat.le_trans (prodZ_ln (all4 nB lz' lz' lz') 4) (by simp)
  have ms : ln s ≤ 1500 := by rw [← hs0]; exact Nat.le_trans (sumZ_ln (all3 mp1' mp2' mp3') 3) (by simp)
  have mp1 : ln p1 ≤ 1500 := by omega
  have mp2 : ln p2 ≤ 1500 := by omega
  have mp3 : ln p3 ≤ 1500 := by omega
  have P1 := Lib.hid hp1; have P2 := Lib.hid hp2; have P3 := Lib.hid hp3; have SS := Lib.hid hs0
  clear hp1 hp2 hp3 hs0 et g1 g2 g3 nA nB lx' lz' mp1' mp2' mp3'
  go_enter Tryz.func109, Tryz.ntmps109
  go_wp2_with fail
  refine chk (fun W => Below w.heap.size w W ∧ W.heap[w.heap.size]? = some (.cells #[.int .i64 A, .int .i64 B] 32 (0, 0)) ∧ W.heap[w.heap.size + 1]? = some (.cells #[.bool b, .slice a n c, .bool b2, .slice a2 n2 c2] 109 (0, 0)) ∧ W.heap[w.heap.size + 1 + 1]? = some (.cells #[.bool false, .slice none 0 0] 82 (0, 0)) ∧ Wx W b a n c x ∧ Wx W b2 a2 n2 c2 z) (by refine ⟨?_, ?_, ?_, ?_, ?_, ?_⟩ <;> (repeat' first | (with_reducible first | assumption | (apply Ne.symm; assumption) | apply Nat.le_refl | apply Nat.le_add_right | apply zL | apply zRf | apply Wx.box | apply Wx.box4 | apply zWa | apply Wx.drew | apply zWn | apply bx_drew | apply bx_drewN | apply bx_set3 | apply bx_set2 | apply bx_set4 | apply bx_set1) | ((with_reducible apply bx_new); (focus (go_size; done))) | (with_reducible first | apply zOl | apply zFa | apply zDn | apply zDr | apply zAl | apply zSt | refine zVi (by assumption) ?_ ?_) | go_size | omega)) ?_
  try clear hx
  try clear hz
  rintro w1 ⟨hB1, H_C_1, H_R_1, H_O_1, hx', hz'⟩
  obtain ⟨k_C_1_0, k_C_1_1, f_C_1, l_C_1⟩ := bk2 H_C_1
  replace H_C_1 := Lib.hid H_C_1
  obtain ⟨k_R_1_0, k_R_1_1, k_R_1_2, k_R_1_3, f_R_1, l_R_1⟩ := bk4 H_R_1
  replace H_R_1 := Lib.hid H_R_1
  obtain ⟨k_O_1_0, k_O_1_1, f_O_1, l_O_1⟩ := bk2 H_O_1
  replace H_O_1 := Lib.hid H_O_1
  have hx := hx'
  clear hx'
  have hz := hz'
  clear hz'
  go_region
  go_wp2_with fail
  replace H_C_1 := H_C_1.out
  replace H_R_1 := H_R_1.out
  replace H_O_1 := H_O_1.out
  refine chk (fun W => Below w.heap.size w W ∧ W.heap[w.heap.size]? = some (.cells #[.int .i64 A, .int .i64 B] 32 (0, 0)) ∧ W.heap[w.heap.size + 1 + 1]? = some (.cells #[.bool false, .slice none 0 0] 82 (0, 0)) ∧ W.heap[w1.heap.size]? = some (.cells #[.bool b, .slice a n c] 82 (0, 0)) ∧ W.heap[w1.heap.size + 1]? = some (.cells #[.bool b2, .slice a2 n2 c2] 82 (0, 0)) ∧ Wx W b a n c x ∧ Wx W b2 a2 n2 c2 z) (by refine ⟨?_, ?_, ?_, ?_, ?_, ?_, ?_⟩ <;> (repeat' first | (with_reducible first | assumption | (apply Ne.symm; assumption) | apply Nat.le_refl | apply Nat.le_add_right | apply zL | apply zRf | apply Wx.box | apply Wx.box4 | apply zWa | apply Wx.drew | apply zWn | apply bx_drew | apply bx_drewN | apply bx_set3 | apply bx_set2 | apply bx_set4 | apply bx_set1) | ((with_reducible apply bx_new); (focus (go_size; done))) | (with_reducible first | apply zOl | apply zFa | apply zDn | apply zDr | apply zAl | apply zSt | refine zVi (by assumption) ?_ ?_) | go_size | omega)) ?_
  try clear hx
  try clear hz
  clear k_C_1_0 k_C_1_1 f_C_1 H_C_1
  clear k_R_1_0 k_R_1_1 k_R_1_2 k_R_1_3 f_R_1 H_R_1
  clear k_O_1_0 k_O_1_1 f_O_1 H_O_1
  clear hB1
  rintro w3 ⟨hB3, H_C_3, H_O_3, H_X_3, H_Z_3, hx', hz'⟩
  obtain ⟨k_C_3_0, k_C_3_1, f_C_3, l_C_3⟩ := bk2 H_C_3
  replace H_C_3 := Lib.hid H_C_3
  obtain ⟨k_O_3_0, k_O_3_1, f_O_3, l_O_3⟩ := bk2 H_O_3
  replace H_O_3 := Lib.hid H_O_3
  obtain ⟨k_X_3_0, k_X_3_1, f_X_3, l_X_3⟩ := bk2 H_X_3
  replace H_X_3 := Lib.hid H_X_3
  obtain ⟨k_Z_3_0, k_Z_3_1, f_Z_3, l_Z_3⟩ := bk2 H_Z_3
  replace H_Z_3 := Lib.hid H_Z_3
  have hx := hx'
  clear hx'
  have hz := hz'
  clear hz'
  generalize w1.heap.size + 1 = gz at *
  generalize w1.heap.size = gx at *
  clear w1
  rotate_left
  go_wp2_with fail
  replace H_C_1 := H_C_1.out
  replace H_R_1 := H_R_1.out
  replace H_O_1 := H_O_1.out
  refine chk (fun W => Below w.heap.size w W ∧ W.heap[w.heap.size]? = some (.cells #[.int .i64 A, .int .i64 B] 32 (0, 0)) ∧ W.heap[w.heap.size + 1 + 1]? = some (.cells #[.bool false, .slice none 0 0] 82 (0, 0)) ∧ W.heap[w1.heap.size + 1]? = some (.cells #[.bool b, .slice a n c] 82 (0, 0)) ∧ W.heap[w1.heap.size]? = some (.cells #[.bool b2, .slice a2 n2 c2] 82 (0, 0)) ∧ Wx W b a n c x ∧ Wx W b2 a2 n2 c2 z) (by refine ⟨?_, ?_, ?_, ?_, ?_, ?_, ?_⟩ <;> (repeat' first | (with_reducible first | assumption | (apply Ne.symm; assumption) | apply Nat.le_refl | apply Nat.le_add_right | apply zL | apply zRf | apply Wx.box | apply Wx.box4 | apply zWa | apply Wx.drew | apply zWn | apply bx_drew | apply bx_drewN | apply bx_set3 | apply bx_set2 | apply bx_set4 | apply bx_set1) | ((with_reducible apply bx_new); (focus (go_size; done))) | (with_reducible first | apply zOl | apply zFa | apply zDn | apply zDr | apply zAl | apply zSt | refine zVi (by assumption) ?_ ?_) | go_size | omega)) ?_
  try clear hx
  try clear hz
  clear k_C_1_0 k_C_1_1 f_C_1 H_C_1
  clear k_R_1_0 k_R_1_1 k_R_1_2 k_R_1_3 f_R_1 H_R_1
  clear k_O_1_0 k_O_1_1 f_O_1 H_O_1
  clear hB1
  rintro w3 ⟨hB3, H_C_3, H_O_3, H_X_3, H_Z_3, hx', hz'⟩
  obtain ⟨k_C_3_0, k_C_3_1, f_C_3, l_C_3⟩ := bk2 H_C_3
  replace H_C_3 := Lib.hid H_C_3
  obtain ⟨k_O_3_0, k_O_3_1, f_O_3, l_O_3⟩ := bk2 H_O_3
  replace H_O_3 := Lib.hid H_O_3
  obtain ⟨k_X_3_0, k_X_3_1, f_X_3, l_X_3⟩ := bk2 H_X_3
  replace H_X_3 := Lib.hid H_X_3
  obtain ⟨k_Z_3_0, k_Z_3_1, f_Z_3, l_Z_3⟩ := bk2 H_Z_3
  replace H_Z_3 := Lib.hid H_Z_3
  have hx := hx'
  clear hx'
  have hz := hz'
  clear hz'
  generalize w1.heap.size + 1 = gx at *
  generalize w1.heap.size = gz at *
  clear w1
  all_goals
    refine wp_open (n := 24) (by kernel_rfl) (by kernel_rfl) (by kernel_rfl) (by kernel_rfl) ?_
    simp only [List.take_succ_cons, List.take_zero]
    apply wpS_quiet
    · intro γ W hW hp
      have hs := hW.size
      (try simp only [World.size_alloc, World.size_setCell, World.size_drew, World.size_drewN'] at hs)
      have kx_0 := fun x : Over W => ((cellAt x.lies (gx) (by omega) 0).trans (cellAt hW (gx) (by first | omega | go_size) 0)).trans k_X_3_0
      have kx_1 := fun x : Over W => ((cellAt x.lies (gx) (by omega) 1).trans (cellAt hW (gx) (by first | omega | go_size) 1)).trans k_X_3_1
      clear hW hp
      refine ⟨rfl, ?_⟩
      go_big_quiet_op
      first | exact rfl
    · exact locS_const _
    try simp only [Act.put, List.setIfInBounds_toArray, List.set_cons_succ, List.set_cons_zero, Nat.reduceAdd]
    apply wpS_quiet
    · intro γ W hW hp
      have hs := hW.size
      (try simp only [World.size_alloc, World.size_setCell, World.size_drew, World.size_drewN'] at hs)
      have kx_0 := fun x : Over W => ((cellAt x.lies (gx) (by omega) 0).trans (cellAt hW (gx) (by first | omega | go_size) 0)).trans k_X_3_0
      have kx_1 := fun x : Over W => ((cellAt x.lies (gx) (by omega) 1).trans (cellAt hW (gx) (by first | omega | go_size) 1)).trans k_X_3_1
      clear hW hp
      refine ⟨rfl, ?_⟩
      go_big_quiet_op
      first | exact rfl
    · exact locS_const _
    try simp only [Act.put, List.setIfInBounds_toArray, List.set_cons_succ, List.set_cons_zero, Nat.reduceAdd]
    apply wpS_quiet
    · intro γ W hW hp
      have hs := hW.size
      (try simp only [World.size_alloc, World.size_setCell, World.size_drew, World.size_drewN'] at hs)
      have kx_0 := fun x : Over W => ((cellAt x.lies (gx) (by omega) 0).trans (cellAt hW (gx) (by first | omega | go_size) 0)).trans k_X_3_0
      have kx_1 := fun x : Over W => ((cellAt x.lies (gx) (by omega) 1).trans (cellAt hW (gx) (by first | omega | go_size) 1)).trans k_X_3_1
      clear hW hp
      refine ⟨rfl, ?_⟩
      go_big_quiet_op
      first | exact rfl
    · exact locS_const _
    try simp only [Act.put, List.setIfInBounds_toArray, List.set_cons_succ, List.set_cons_zero, Nat.reduceAdd]
    apply wpS_open (openL 3 [x, x, x])
    · intro γ W hW hp
      refine ⟨rfl, ?_⟩
      go_simp
      exact ⟨⟨⟨_, rfl, LxAt.new3 (hx.below hW) (hx.below hW) (hx.below hW)⟩, fun e => by cases e⟩, (Below.refl _ _).alloc (Nat.le_refl _) _⟩
    try simp only [Act.put, List.setIfInBounds_toArray, List.set_cons_succ, List.set_cons_zero, Nat.reduceAdd]
    apply wpS_open (openW w.heap.size p1)
    · intro γ W hW hp
      have hp_3 := hp _ (List.mem_append_right _ (List.mem_singleton.2 rfl)) (by kernel_rfl)
      dsimp only at hp_3
      refine ⟨rfl, ?_⟩
      go_simp
      refine plainNew rfl ?_
      obtain ⟨g3, e3, h3⟩ := hp_3
      rw [e3]
      exact open_W (productWholes_eq h3 rfl (by omega) P1.out (all3 lx lx lx)) (by (have := hW.size; (try simp only [World.size_alloc, World.size_setCell, World.size_drew, World.size_drewN'] at this); omega))
    try simp only [Act.put, List.setIfInBounds_toArray, List.set_cons_succ, List.set_cons_zero, Nat.reduceAdd]
    apply wpS_quiet
    · intro γ W hW hp
      refine ⟨rfl, ?_⟩
      go_big_quiet_op
      first | exact rfl
    · exact locS_const _
    try simp only [Act.put, List.setIfInBounds_toArray, List.set_cons_succ, List.set_cons_zero, Nat.reduceAdd]
    apply wpS_quiet
    · intro γ W hW hp
      have hs := hW.size
      (try simp only [World.size_alloc, World.size_setCell, World.size_drew, World.size_drewN'] at hs)
      have kx_0 := fun x : Over W => ((cellAt x.lies (w.heap.size) (by omega) 0).trans (cellAt hW (w.heap.size) (by first | omega | go_size) 0)).trans k_C_3_0
      have kx_1 := fun x : Over W => ((cellAt x.lies (w.heap.size) (by omega) 1).trans (cellAt hW (w.heap.size) (by first | omega | go_size) 1)).trans k_C_3_1
      clear hW hp
      refine ⟨rfl, ?_⟩
      go_big_quiet_op
      first | exact rfl
    · exact locS_const _
    try simp only [Act.put, List.setIfInBounds_toArray, List.set_cons_succ, List.set_cons_zero, Nat.reduceAdd]
    apply wpS_open (openW w.heap.size A)
    · intro γ W hW hp
      refine ⟨rfl, ?_⟩
      go_simp
      refine plainNew rfl ?_
      exact open_W (wholeOf_any A W (by omega) (by omega)) (by (have := hW.size; (try simp only [World.size_alloc, World.size_setCell, World.size_drew, World.size_drewN'] at this); omega))
    try simp only [Act.put, List.setIfInBounds_toArray, List.set_cons_succ, List.set_cons_zero, Nat.reduceAdd]
    apply wpS_quiet
    · intro γ W hW hp
      have hs := hW.size
      (try simp only [World.size_alloc, World.size_setCell, World.size_drew, World.size_drewN'] at hs)
      have kx_0 := fun x : Over W => ((cellAt x.lies (gx) (by omega) 0).trans (cellAt hW (gx) (by first | omega | go_size) 0)).trans k_X_3_0
      have kx_1 := fun x : Over W => ((cellAt x.lies (gx) (by omega) 1).trans (cellAt hW (gx) (by first | omega | go_size) 1)).trans k_X_3_1
      clear hW hp
      refine ⟨rfl, ?_⟩
      go_big_quiet_op
      first | exact rfl
    · exact locS_const _
    try simp only [Act.put, List.setIfInBounds_toArray, List.set_cons_succ, List.set_cons_zero, Nat.reduceAdd]
    apply wpS_quiet
    · intro γ W hW hp
      have hs := hW.size
      (try simp only [World.size_alloc, World.size_setCell, World.size_drew, World.size_drewN'] at hs)
      have kx_0 := fun x : Over W => ((cellAt x.lies (gz) (by omega) 0).trans (cellAt hW (gz) (by first | omega | go_size) 0)).trans k_Z_3_0
      have kx_1 := fun x : Over W => ((cellAt x.lies (gz) (by omega) 1).trans (cellAt hW (gz) (by first | omega | go_size) 1)).trans k_Z_3_1
      clear hW hp
      refine ⟨rfl, ?_⟩
      go_big_quiet_op
      first | exact rfl
    · exact locS_const _
    try simp only [Act.put, List.setIfInBounds_toArray, List.set_cons_succ, List.set_cons_zero, Nat.reduceAdd]
    apply wpS_quiet
    · intro γ W hW hp
      have hs := hW.size
      (try simp only [World.size_alloc, World.size_setCell, World.size_drew, World.size_drewN'] at hs)
      have kx_0 := fun x : Over W => ((cellAt x.lies (gz) (by omega) 0).trans (cellAt hW (gz) (by first | omega | go_size) 0)).trans k_Z_3_0
      have kx_1 := fun x : Over W => ((cellAt x.lies (gz) (by omega) 1).trans (cellAt hW (gz) (by first | omega | go_size) 1)).trans k_Z_3_1
      clear hW hp
      refine ⟨rfl, ?_⟩
      go_big_quiet_op
      first | exact rfl
    · exact locS_const _
    try simp only [Act.put, List.setIfInBounds_toArray, List.set_cons_succ, List.set_cons_zero, Nat.reduceAdd]
    apply wpS_open (openL 4 [A, x, z, z])
    · intro γ W hW hp
      have hp_7 := hp _ (List.mem_append_right _ (List.mem_singleton.2 rfl)) (by kernel_rfl)
      dsimp only at hp_7
      refine ⟨rfl, ?_⟩
      obtain ⟨b3, a3, n3, c3, e3, h3, _⟩ := hp_7
      rw [e3]
      go_simp
      exact ⟨⟨⟨_, rfl, LxAt.new4 h3 (hx.below hW) (hz.below hW) (hz.below hW)⟩, fun e => by cases e⟩, (Below.refl _ _).alloc (Nat.le_refl _) _⟩
    try simp only [Act.put, List.setIfInBounds_toArray, List.set_cons_succ, List.set_cons_zero, Nat.reduceAdd]
    apply wpS_open (openW w.heap.size p2)
    · intro γ W hW hp
      have hp_11 := hp _ (List.mem_append_right _ (List.mem_singleton.2 rfl)) (by kernel_rfl)
      dsimp only at hp_11
      refine ⟨rfl, ?_⟩
      go_simp
      refine plainNew rfl ?_
      obtain ⟨g3, e3, h3⟩ := hp_11
      rw [e3]
      exact open_W (productWholes_eq h3 rfl (by omega) P2.out (all4 lA lx lz lz)) (by (have := hW.size; (try simp only [World.size_alloc, World.size_setCell, World.size_drew, World.size_drewN'] at this); omega))
    try simp only [Act.put, List.setIfInBounds_toArray, List.set_cons_succ, List.set_cons_zero, Nat.reduceAdd]
    apply wpS_quiet
    · intro γ W hW hp
      refine ⟨rfl, ?_⟩
      go_big_quiet_op
      first | exact rfl
    · exact locS_const _
    try simp only [Act.put, List.setIfInBounds_toArray, List.set_cons_succ, List.set_cons_zero, Nat.reduceAdd]
    apply wpS_quiet
    · intro γ W hW hp
      have hs := hW.size
      (try simp only [World.size_alloc, World.size_setCell, World.size_drew, World.size_drewN'] at hs)
      have kx_0 := fun x : Over W => ((cellAt x.lies (w.heap.size) (by omega) 0).trans (cellAt hW (w.heap.size) (by first | omega | go_size) 0)).trans k_C_3_0
      have kx_1 := fun x : Over W => ((cellAt x.lies (w.heap.size) (by omega) 1).trans (cellAt hW (w.heap.size) (by first | omega | go_size) 1)).trans k_C_3_1
      clear hW hp
      refine ⟨rfl, ?_⟩
      go_big_quiet_op
      first | exact rfl
    · exact locS_const _
    try simp only [Act.put, List.setIfInBounds_toArray, List.set_cons_succ, List.set_cons_zero, Nat.reduceAdd]
    apply wpS_open (openW w.heap.size B)
    · intro γ W hW hp
      refine ⟨rfl, ?_⟩
      go_simp
      refine plainNew rfl ?_
      exact open_W (wholeOf_any B W (by omega) (by omega)) (by (have := hW.size; (try simp only [World.size_alloc, World.size_setCell, World.size_drew, World.size_drewN'] at this); omega))
    try simp only [Act.put, List.setIfInBounds_toArray, List.set_cons_succ, List.set_cons_zero, Nat.reduceAdd]
    apply wpS_quiet
    · intro γ W hW hp
      have hs := hW.size
      (try simp only [World.size_alloc, World.size_setCell, World.size_drew, World.size_drewN'] at hs)
      have kx_0 := fun x : Over W => ((cellAt x.lies (gz) (by omega) 0).trans (cellAt hW (gz) (by first | omega | go_size) 0)).trans k_Z_3_0
      have kx_1 := fun x : Over W => ((cellAt x.lies (gz) (by omega) 1).trans (cellAt hW (gz) (by first | omega | go_size) 1)).trans k_Z_3_1
      clear hW hp
      refine ⟨rfl, ?_⟩
      go_big_quiet_op
      first | exact rfl
    · exact locS_const _
    try simp only [Act.put, List.setIfInBounds_toArray, List.set_cons_succ, List.set_cons_zero, Nat.reduceAdd]
    apply wpS_quiet
    · intro γ W hW hp
      have hs := hW.size
      (try simp only [World.size_alloc, World.size_setCell, World.size_drew, World.size_drewN'] at hs)
      have kx_0 := fun x : Over W => ((cellAt x.lies (gz) (by omega) 0).trans (cellAt hW (gz) (by first | omega | go_size) 0)).trans k_Z_3_0
      have kx_1 := fun x : Over W => ((cellAt x.lies (gz) (by omega) 1).trans (cellAt hW (gz) (by first | omega | go_size) 1)).trans k_Z_3_1
      clear hW hp
      refine ⟨rfl, ?_⟩
      go_big_quiet_op
      first | exact rfl
    · exact locS_const _
    try simp only [Act.put, List.setIfInBounds_toArray, List.set_cons_succ, List.set_cons_zero, Nat.reduceAdd]
    apply wpS_quiet
    · intro γ W hW hp
      have hs := hW.size
      (try simp only [World.size_alloc, World.size_setCell, World.size_drew, World.size_drewN'] at hs)
      have kx_0 := fun x : Over W => ((cellAt x.lies (gz) (by omega) 0).trans (cellAt hW (gz) (by first | omega | go_size) 0)).trans k_Z_3_0
      have kx_1 := fun x : Over W => ((cellAt x.lies (gz) (by omega) 1).trans (cellAt hW (gz) (by first | omega | go_size) 1)).trans k_Z_3_1
      clear hW hp
      refine ⟨rfl, ?_⟩
      go_big_quiet_op
      first | exact rfl
    · exact locS_const _
    try simp only [Act.put, List.setIfInBounds_toArray, List.set_cons_succ, List.set_cons_zero, Nat.reduceAdd]
    apply wpS_open (openL 4 [B, z, z, z])
    · intro γ W hW hp
      have hp_15 := hp _ (List.mem_append_right _ (List.mem_singleton.2 rfl)) (by kernel_rfl)
      dsimp only at hp_15
      refine ⟨rfl, ?_⟩
      obtain ⟨b3, a3, n3, c3, e3, h3, _⟩ := hp_15
      rw [e3]
      go_simp
      exact ⟨⟨⟨_, rfl, LxAt.new4 h3 (hz.below hW) (hz.below hW) (hz.below hW)⟩, fun e => by cases e⟩, (Below.refl _ _).alloc (Nat.le_refl _) _⟩
    try simp only [Act.put, List.setIfInBounds_toArray, List.set_cons_succ, List.set_cons_zero, Nat.reduceAdd]
    apply wpS_open (openW w.heap.size p3)
    · intro γ W hW hp
      have hp_19 := hp _ (List.mem_append_right _ (List.mem_singleton.2 rfl)) (by kernel_rfl)
      dsimp only at hp_19
      refine ⟨rfl, ?_⟩
      go_simp
      refine plainNew rfl ?_
      obtain ⟨g3, e3, h3⟩ := hp_19
      rw [e3]
      exact open_W (productWholes_eq h3 rfl (by omega) P3.out (all4 lB lz lz lz)) (by (have := hW.size; (try simp only [World.size_alloc, World.size_setCell, World.size_drew, World.size_drewN'] at this); omega))
    try simp only [Act.put, List.setIfInBounds_toArray, List.set_cons_succ, List.set_cons_zero, Nat.reduceAdd]
    apply wpS_open (openL 3 [p1, p2, p3])
    · intro γ W hW hp
      have hp_4 := hp _ (List.mem_append_left _ (List.mem_append_left _ (List.mem_append_left _ (List.mem_append_left _ (List.mem_append_left _ (List.mem_append_left _ (List.mem_append_right _ (List.mem_singleton.2 rfl)))))))) (by kernel_rfl)
      dsimp only at hp_4
      have hp_12 := hp _ (List.mem_append_left _ (List.mem_append_left _ (List.mem_append_left _ (List.mem_append_right _ (List.mem_singleton.2 rfl))))) (by kernel_rfl)
      dsimp only at hp_12
      have hp_20 := hp _ (List.mem_append_right _ (List.mem_singleton.2 rfl)) (by kernel_rfl)
      dsimp only at hp_20
      refine ⟨rfl, ?_⟩
      obtain ⟨b3, a3, n3, c3, e3, h3, _⟩ := hp_4
      obtain ⟨b4, a4, n4, c4, e4, h4, _⟩ := hp_12
      obtain ⟨b5, a5, n5, c5, e5, h5, _⟩ := hp_20
      rw [e3, e4, e5]
      go_simp
      exact ⟨⟨⟨_, rfl, LxAt.new3 h3 h4 h5⟩, fun e => by cases e⟩, (Below.refl _ _).alloc (Nat.le_refl _) _⟩
    try simp only [Act.put, List.setIfInBounds_toArray, List.set_cons_succ, List.set_cons_zero, Nat.reduceAdd]
    apply wpS_open (openW w.heap.size s)
    · intro γ W hW hp
      have hp_21 := hp _ (List.mem_append_right _ (List.mem_singleton.2 rfl)) (by kernel_rfl)
      dsimp only at hp_21
      refine ⟨rfl, ?_⟩
      go_simp
      refine plainNew rfl ?_
      obtain ⟨g3, e3, h3⟩ := hp_21
      rw [e3]
      exact open_W (sumWholes_eq h3 rfl (by omega) SS.out (all3 mp1 mp2 mp3)) (by (have := hW.size; (try simp only [World.size_alloc, World.size_setCell, World.size_drew, World.size_drewN'] at this); omega))
    try simp only [Act.put, List.setIfInBounds_toArray, List.set_cons_succ, List.set_cons_zero, Nat.reduceAdd]
    apply wpS_open (newBox _ _ _)
    · intro γ W hW hp
      refine ⟨rfl, ?_⟩
      go_simp
      exact ⟨⟨⟨_, rfl, hW.size, heap_alloc_new _ _⟩, fun _ => ⟨_, rfl, Nat.le_refl _, by simp⟩⟩, (Below.refl _ _).alloc (Nat.le_refl _) _⟩
    try simp only [Act.put, List.setIfInBounds_toArray, List.set_cons_succ, List.set_cons_zero, Nat.reduceAdd]
    apply wpS_end
    intro γ w4 hb4 hG4 hA4
    have hg4_3 := hG4 _ (List.mem_append_left _ (List.mem_append_left _ (List.mem_append_left _ (List.mem_append_left _ (List.mem_append_left _ (List.mem_append_left _ (List.mem_append_left _ (List.mem_append_left _ (List.mem_append_left _ (List.mem_append_left _ (List.mem_append_right _ (List.mem_singleton.2 rfl))))))))))))
    dsimp only at hg4_3
    have hg4_4 := hG4 _ (List.mem_append_left _ (List.mem_append_left _ (List.mem_append_left _ (List.mem_append_left _ (List.mem_append_left _ (List.mem_append_left _ (List.mem_append_left _ (List.mem_append_left _ (List.mem_append_left _ (List.mem_append_right _ (List.mem_singleton.2 rfl)))))))))))
    dsimp only at hg4_4
    have hg4_7 := hG4 _ (List.mem_append_left _ (List.mem_append_left _ (List.mem_append_left _ (List.mem_append_left _ (List.mem_append_left _ (List.mem_append_left _ (List.mem_append_left _ (List.mem_append_left _ (List.mem_append_right _ (List.mem_singleton.2 rfl))))))))))
    dsimp only at hg4_7
    have hg4_11 := hG4 _ (List.mem_append_left _ (List.mem_append_left _ (List.mem_append_left _ (List.mem_append_left _ (List.mem_append_left _ (List.mem_append_left _ (List.mem_append_left _ (List.mem_append_right _ (List.mem_singleton.2 rfl)))))))))
    dsimp only at hg4_11
    have hg4_12 := hG4 _ (List.mem_append_left _ (List.mem_append_left _ (List.mem_append_left _ (List.mem_append_left _ (List.mem_append_left _ (List.mem_append_left _ (List.mem_append_right _ (List.mem_singleton.2 rfl))))))))
    dsimp only at hg4_12
    have hg4_15 := hG4 _ (List.mem_append_left _ (List.mem_append_left _ (List.mem_append_left _ (List.mem_append_left _ (List.mem_append_left _ (List.mem_append_right _ (List.mem_singleton.2 rfl)))))))
    dsimp only at hg4_15
    have hg4_19 := hG4 _ (List.mem_append_left _ (List.mem_append_left _ (List.mem_append_left _ (List.mem_append_left _ (List.mem_append_right _ (List.mem_singleton.2 rfl))))))
    dsimp only at hg4_19
    have hg4_20 := hG4 _ (List.mem_append_left _ (List.mem_append_left _ (List.mem_append_left _ (List.mem_append_right _ (List.mem_singleton.2 rfl)))))
    dsimp only at hg4_20
    have hg4_21 := hG4 _ (List.mem_append_left _ (List.mem_append_left _ (List.mem_append_right _ (List.mem_singleton.2 rfl))))
    dsimp only at hg4_21
    have hg4_22 := hG4 _ (List.mem_append_left _ (List.mem_append_right _ (List.mem_singleton.2 rfl)))
    dsimp only at hg4_22
    obtain ⟨g4_23, e4_23, l4_23, k4_23⟩ := hG4 _ (List.mem_append_right _ (List.mem_singleton.2 rfl))
    dsimp only at e4_23 l4_23 k4_23
    have kb4_23 := fun o => blk_cell k4_23 o
    have fb4_23 := fun o => blk_frozen k4_23 o
    have lb4_23 := blk_lt' k4_23
    have ne4_23_C : w.heap.size ≠ g4_23 := Nat.ne_of_lt (Nat.lt_of_lt_of_le l_C_3 l4_23)
    have ne4_23_O : w.heap.size + 1 + 1 ≠ g4_23 := Nat.ne_of_lt (Nat.lt_of_lt_of_le l_O_3 l4_23)
    have ne4_23_X : gx ≠ g4_23 := Nat.ne_of_lt (Nat.lt_of_lt_of_le l_X_3 l4_23)
    have ne4_23_Z : gz ≠ g4_23 := Nat.ne_of_lt (Nat.lt_of_lt_of_le l_Z_3 l4_23)
    have lw4_23 : w.heap.size ≤ g4_23 := Nat.le_trans hB3.size l4_23
    clear hG4 hA4
    try simp only [e4_23]
    clear e4_23
    simp only [List.drop_succ_cons, List.drop_zero]
    have hz4 := hb4.size
    (try simp only [World.size_alloc, World.size_setCell, World.size_drew, World.size_drewN'] at hz4)
    obtain ⟨b5, a5, n5, c5, e5, hs, -⟩ := hg4_22
    simp only [e5]
    clear e5
    have H_C_4 := (hb4.block (w.heap.size) (blk_lt' H_C_3.out)).trans H_C_3.out
    clear k_C_3_0 k_C_3_1 f_C_3 H_C_3
    obtain ⟨k_C_4_0, k_C_4_1, f_C_4, l_C_4⟩ := bk2 H_C_4
    replace H_C_4 := Lib.hid H_C_4
    have H_O_4 := (hb4.block (w.heap.size + 1 + 1) (blk_lt' H_O_3.out)).trans H_O_3.out
    clear k_O_3_0 k_O_3_1 f_O_3 H_O_3
    obtain ⟨k_O_4_0, k_O_4_1, f_O_4, l_O_4⟩ := bk2 H_O_4
    replace H_O_4 := Lib.hid H_O_4
    have H_X_4 := (hb4.block (gx) (blk_lt' H_X_3.out)).trans H_X_3.out
    clear k_X_3_0 k_X_3_1 f_X_3 H_X_3
    obtain ⟨k_X_4_0, k_X_4_1, f_X_4, l_X_4⟩ := bk2 H_X_4
    replace H_X_4 := Lib.hid H_X_4
    have H_Z_4 := (hb4.block (gz) (blk_lt' H_Z_3.out)).trans H_Z_3.out
    clear k_Z_3_0 k_Z_3_1 f_Z_3 H_Z_3
    obtain ⟨k_Z_4_0, k_Z_4_1, f_Z_4, l_Z_4⟩ := bk2 H_Z_4
    replace H_Z_4 := Lib.hid H_Z_4
    replace hx := hx.below hb4
    replace hz := hz.below hb4
    have hB4 : Below w.heap.size w w4 := below_via hb4 (by assumption) (by go_size)
    go_wp2_with fail
    replace H_C_4 := H_C_4.out
    replace H_O_4 := H_O_4.out
    replace H_X_4 := H_X_4.out
    replace H_Z_4 := H_Z_4.out
    refine chk (fun W => Below w.heap.size w W ∧ W.heap[w.heap.size + 1 + 1]? = some (.cells #[.bool false, .slice none 0 0] 82 (0, 0)) ∧ W.heap[gz]? = some (.cells #[.bool b2, .slice a2 n2 c2] 82 (0, 0)) ∧ W.heap[g4_23]? = some (.cells #[.bool b5, .slice a5 n5 c5] 82 (0, 0)) ∧ Wx W b2 a2 n2 c2 z ∧ Wx W b5 a5 n5 c5 s) (by refine ⟨?_, ?_, ?_, ?_, ?_, ?_⟩ <;> (repeat' first | (with_reducible first | assumption | (apply Ne.symm; assumption) | apply Nat.le_refl | apply Nat.le_add_right | apply zL | apply zRf | apply Wx.box | apply Wx.box4 | apply zWa | apply Wx.drew | apply zWn | apply bx_drew | apply bx_drewN | apply bx_set3 | apply bx_set2 | apply bx_set4 | apply bx_set1) | ((with_reducible apply bx_new); (focus (go_size; done))) | (with_reducible first | apply zOl | apply zFa | apply zDn | apply zDr | apply zAl | apply zSt | refine zVi (by assumption) ?_ ?_) | go_size | omega)) ?_
    try clear hz
    try clear hs
    clear k_C_4_0 k_C_4_1 f_C_4 H_C_4
    clear k_O_4_0 k_O_4_1 f_O_4 H_O_4
    clear k_X_4_0 k_X_4_1 f_X_4 H_X_4
    clear k_Z_4_0 k_Z_4_1 f_Z_4 H_Z_4
    clear hB4
    try clear kb4_23
    try clear fb4_23
    try clear k4_23
    rintro w5 ⟨hB5, H_O_5, H_Z_5, H_S_5, hz', hs'⟩
    obtain ⟨k_O_5_0, k_O_5_1, f_O_5, l_O_5⟩ := bk2 H_O_5
    replace H_O_5 := Lib.hid H_O_5
    obtain ⟨k_Z_5_0, k_Z_5_1, f_Z_5, l_Z_5⟩ := bk2 H_Z_5
    replace H_Z_5 := Lib.hid H_Z_5
    obtain ⟨k_S_5_0, k_S_5_1, f_S_5, l_S_5⟩ := bk2 H_S_5
    replace H_S_5 := Lib.hid H_S_5
    have hz := hz'
    clear hz'
    have hs := hs'
    clear hs'
    clear hA hBB hx lx mp1 mp2 mp3 lA lB
    refine wp_open (n := 5) (by kernel_rfl) (by kernel_rfl) (by kernel_rfl) (by kernel_rfl) ?_
    simp only [List.take_succ_cons, List.take_zero]
    apply wpS_open (openW w.heap.size 4)
    · intro γ W hW hp
      refine ⟨rfl, ?_⟩
      go_simp
      refine plainNew rfl ?_
      exact open_W (wholeOf_any 4 W (by omega) (by omega)) (by (have := hW.size; (try simp only [World.size_alloc, World.size_setCell, World.size_drew, World.size_drewN'] at this); omega))
    try simp only [Act.put, List.setIfInBounds_toArray, List.set_cons_succ, List.set_cons_zero, Nat.reduceAdd]
    apply wpS_quiet
    · intro γ W hW hp
      have hs := hW.size
      (try simp only [World.size_alloc, World.size_setCell, World.size_drew, World.size_drewN'] at hs)
      have kx_0 := fun x : Over W => ((cellAt x.lies (gz) (by omega) 0).trans (cellAt hW (gz) (by first | omega | go_size) 0)).trans k_Z_5_0
      have kx_1 := fun x : Over W => ((cellAt x.lies (gz) (by omega) 1).trans (cellAt hW (gz) (by first | omega | go_size) 1)).trans k_Z_5_1
      clear hW hp
      refine ⟨rfl, ?_⟩
      go_big_quiet_op
      first | exact rfl
    · exact locS_const _
    try simp only [Act.put, List.setIfInBounds_toArray, List.set_cons_succ, List.set_cons_zero, Nat.reduceAdd]
    apply wpS_quiet
    · intro γ W hW hp
      have hs := hW.size
      (try simp only [World.size_alloc, World.size_setCell, World.size_drew, World.size_drewN'] at hs)
      have kx_0 := fun x : Over W => ((cellAt x.lies (g4_23) (by omega) 0).trans (cellAt hW (g4_23) (by first | omega | go_size) 0)).trans k_S_5_0
      have kx_1 := fun x : Over W => ((cellAt x.lies (g4_23) (by omega) 1).trans (cellAt hW (g4_23) (by first | omega | go_size) 1)).trans k_S_5_1
      clear hW hp
      refine ⟨rfl, ?_⟩
      go_big_quiet_op
      first | exact rfl
    · exact locS_const _
    try simp only [Act.put, List.setIfInBounds_toArray, List.set_cons_succ, List.set_cons_zero, Nat.reduceAdd]
    apply wpS_open (openL 3 [4, z, s])
    · intro γ W hW hp
      have hp_0 := hp _ (List.mem_append_right _ (List.mem_singleton.2 rfl)) (by kernel_rfl)
      dsimp only at hp_0
      refine ⟨rfl, ?_⟩
      obtain ⟨b3, a3, n3, c3, e3, h3, _⟩ := hp_0
      rw [e3]
      go_simp
      exact ⟨⟨⟨_, rfl, LxAt.new3 h3 (hz.below hW) (hs.below hW)⟩, fun e => by cases e⟩, (Below.refl _ _).alloc (Nat.le_refl _) _⟩
    try simp only [Act.put, List.setIfInBounds_toArray, List.set_cons_succ, List.set_cons_zero, Nat.reduceAdd]
    apply wpS_open (openW w.heap.size t)
    · intro γ W hW hp
      have hp_3 := hp _ (List.mem_append_right _ (List.mem_singleton.2 rfl)) (by kernel_rfl)
      dsimp only at hp_3
      refine ⟨rfl, ?_⟩
      go_simp
      refine plainNew rfl ?_
      obtain ⟨g3, e3, h3⟩ := hp_3
      rw [e3]
      exact open_W (productWholes_eq h3 rfl (by omega) RT.out (all3 l4 lz ms)) (by (have := hW.size; (try simp only [World.size_alloc, World.size_setCell, World.size_drew, World.size_drewN'] at this); omega))
    try simp only [Act.put, List.setIfInBounds_toArray, List.set_cons_succ, List.set_cons_zero, Nat.reduceAdd]
    apply wpS_end
    intro γ w6 hb6 hG6 hA6
    have hg6_0 := hG6 _ (List.mem_append_left _ (List.mem_append_left _ (List.mem_append_right _ (List.mem_singleton.2 rfl))))
    dsimp only at hg6_0
    have hg6_3 := hG6 _ (List.mem_append_left _ (List.mem_append_right _ (List.mem_singleton.2 rfl)))
    dsimp only at hg6_3
    have hg6_4 := hG6 _ (List.mem_append_right _ (List.mem_singleton.2 rfl))
    dsimp only at hg6_4
    clear hG6 hA6
    simp only [List.drop_succ_cons, List.drop_zero]
    have hz6 := hb6.size
    (try simp only [World.size_alloc, World.size_setCell, World.size_drew, World.size_drewN'] at hz6)
    obtain ⟨b7, a7, n7, c7, e7, h7, f7⟩ := hg6_4
    simp only [e7]
    clear e7
    have H_O_6 := (hb6.block (w.heap.size + 1 + 1) (blk_lt' H_O_5.out)).trans H_O_5.out
    clear k_O_5_0 k_O_5_1 f_O_5 H_O_5
    obtain ⟨k_O_6_0, k_O_6_1, f_O_6, l_O_6⟩ := bk2 H_O_6
    replace H_O_6 := Lib.hid H_O_6
    have H_Z_6 := (hb6.block (gz) (blk_lt' H_Z_5.out)).trans H_Z_5.out
    clear k_Z_5_0 k_Z_5_1 f_Z_5 H_Z_5
    obtain ⟨k_Z_6_0, k_Z_6_1, f_Z_6, l_Z_6⟩ := bk2 H_Z_6
    replace H_Z_6 := Lib.hid H_Z_6
    have H_S_6 := (hb6.block (g4_23) (blk_lt' H_S_5.out)).trans H_S_5.out
    clear k_S_5_0 k_S_5_1 f_S_5 H_S_5
    obtain ⟨k_S_6_0, k_S_6_1, f_S_6, l_S_6⟩ := bk2 H_S_6
    replace H_S_6 := Lib.hid H_S_6
    replace hz := hz.below hb6
    replace hs := hs.below hb6
    have hB6 : Below w.heap.size w w6 := below_via hb6 (by assumption) (by go_size)
    clear k_Z_6_0
    clear k_Z_6_1
    clear f_Z_6 H_Z_6
    clear k_S_6_0
    clear k_S_6_1
    clear f_S_6 H_S_6
    try clear ne4_23_C
    try clear ne4_23_O
    try clear ne4_23_X
    try clear ne4_23_Z
    clear hz hs lz l4 ms
    iterate 24 (first | (with_reducible show bodyPost _ _ _ _ _ _) | (with_reducible refine wp_ret ?_) | go_values | go_skip | go_guarded | go_step | go_upon | go_back | skip)
    refine bodyPost_ret (v := .agg #[.bool b7, .slice a7 n7 c7]) (by simp [results, Tryz.results109, go_sem, k_O_6_0, k_O_6_1]) rfl ⟨_, _, _, _, rfl, ?_, f7, ?_⟩
    · have HO := H_O_6.out
      (repeat' first | (with_reducible first | assumption | (apply Ne.symm; assumption) | apply Nat.le_refl | apply Nat.le_add_right | apply zL | apply zRf | apply Wx.box | apply Wx.box4 | apply zWa | apply Wx.drew | apply zWn | apply bx_drew | apply bx_drewN | apply bx_set3 | apply bx_set2 | apply bx_set4 | apply bx_set1) | ((with_reducible apply bx_new); (focus (go_size; done))) | (with_reducible first | apply zOl | apply zFa | apply zDn | apply zDr | apply zAl | apply zSt | refine zVi (by assumption) ?_ ?_) | go_size | omega)
    · (repeat' first | (with_reducible first | assumption | (apply Ne.symm; assumption) | apply Nat.le_refl | apply Nat.le_add_right | apply zL | apply zRf | apply Wx.box | apply Wx.box4 | apply zWa | apply Wx.drew | apply zWn | apply bx_drew | apply bx_drewN | apply bx_set3 | apply bx_set2 | apply bx_set4 | apply bx_set1) | ((with_reducible apply bx_new); (focus (go_size; done))) | (with_reducible first | apply zOl | apply zFa | apply zDn | apply zDr | apply zAl | apply zSt | refine zVi (by assumption) ?_ ?_) | go_size | omega)
end
section
open Go.RowKit
set_option linter.unusedVariables false
set_option maxHeartbeats 1000000
set_option maxRecDepth 20000
set_option linter.unusedSimpArgs false
attribute [local go_sem] openAt openUpon
def openV (u : Value) : St where
  ok v W := v = u
  keep v W W2 h hb := h
theorem open_V {P : Program} {f : FuncId} {args : Array Value} {W : World} {u : Value} (h : Calls P f args W fun e w' => e = .returned u ∧ Below W.heap.size W w') : Calls P f args W fun e w' => ∃ v, e = .returned v ∧ (openV u).ok v w' ∧ Below W.heap.size W w' :=
  h.mono fun e w' ⟨h1, h2⟩ => ⟨_, h1, rfl, h2⟩
theorem divisorWith_eq {b : Bool} {a : Option Addr} {n c : Nat} {z d v : Int} {w : World} (hs : Wx w b a n c z) (l1 : ln z ≤ 9000) (hd : 1 ≤ d) (hd2 : d ≤ 100000000000000) (ev : gcdI (ab z % d) d = v) :
    Calls Tryz.prog 139 #[.agg #[.bool b, .slice a n c], .int .i64 d] w fun e w' => e = .returned (.int .i64 v) ∧ Below w.heap.size w w' := by
  have hl : n ≤ 9000 := by have := hs.ln; omega
  have EV := Lib.hid ev
  have l2 : ln (ab z) ≤ 9000 := by rw [ln_ab]; exact l1
  have m1 := Int.emod_nonneg (ab z) (b := d) (by omega)
  have m2 := Int.emod_lt_of_pos (ab z) (b := d) (by omega)
  clear ev
  have tok1 : True := trivial
  have tok2 : True := trivial
  go_enter Tryz.func139, Tryz.ntmps139
  go_wp2_with (first | (have _t := tok1; go_at_call 131; (with_reducible refine ((absolute_any b a n c z _ (hs.below (by repeat' first | (with_reducible first | apply zRf | assumption | apply zDn | apply zDr | apply zAl | apply zSt | refine zVi (by assumption) ?_ ?_) | go_size)) (by omega))).mono ?_); rintro e w1 ⟨b1, a1, n1, c1, rfl, h1, f1, hb1⟩; clear tok1 _t; have hz1 := hb1.size; (try simp only [World.size_alloc, World.size_setCell, World.size_drew, World.size_drewN'] at hz1); (try (have kq := cellAt hb1 (w.heap.size) (by go_size); have k1_w_0_0 := kq 0; have k1_w_0_1 := kq 1; clear kq; have f1_w_0 := frozAt hb1 (w.heap.size) (by go_size); simp [go_sem, *] at k1_w_0_0 k1_w_0_1 f1_w_0)); (try have l1_w_0 : w.heap.size < w1.heap.size := by omega)) | (have _t := tok2; go_at_call 128; (with_reducible refine ((divWhole_any h1 (by omega) hd hd2)).mono ?_); rintro e w2 ⟨b2, a2, n2, c2, rfl, h2, f2, hb2⟩; clear tok2 _t; have hz2 := hb2.size; (try simp only [World.size_alloc, World.size_setCell, World.size_drew, World.size_drewN'] at hz2); (try (have kq := cellAt hb2 (w.heap.size) (by go_size); have k2_w_0_0 := kq 0; have k2_w_0_1 := kq 1; clear kq; have f2_w_0 := frozAt hb2 (w.heap.size) (by go_size); simp [go_sem, *] at k2_w_0_0 k2_w_0_1 f2_w_0)); (try have l2_w_0 : w.heap.size < w2.heap.size := by omega); (try clear k1_w_0_0 k1_w_0_1 f1_w_0); (try clear l1_w_0)) | (go_at_call 43; refine (gcd_any _ _ _ (by omega) (by omega) (by omega) (by omega)).mono ?_; rintro e w' ⟨rfl, nq, rfl⟩))
  go_ret
  refine ⟨ret_int EV.out, ?_⟩
  repeat' first | (with_reducible first | apply zRf | assumption | apply zDn | apply zDr | apply zAl | apply zSt | refine zVi (by assumption) ?_ ?_) | go_size
theorem divisorTaken_eq {A B x z t s v : Int} {b b2 : Bool} {a a2 : Option Addr} {n c n2 c2 : Nat} {w : World} (hA : -1000 ≤ A ∧ A ≤ 1000) (hBB : -10000 ≤ B ∧ B ≤ 10000) (hcv : coV A B ≠ 0) (hx : Wx w b a n c x) (hz : Wx w b2 a2 n2 c2 z) (lx' : ln x ≤ 80) (lz' : ln z ≤ 80) (et : topZ A B x z = t) (es : botZ A B x z = s) (ev : dvZ (4 * absI (coV A B)) t s = v) :
    Calls Tryz.prog 127 #[.agg #[.int .i64 A, .int .i64 B], .agg #[.bool b, .slice a n c, .bool b2, .slice a2 n2 c2]] w fun e w' => e = .returned (.int .i64 v) ∧ Below w.heap.size w w' := by
  have hcb := coV_bd hA hBB
  obtain ⟨N, hN⟩ : ∃ N, 4 * absI (coV A B) = N := ⟨_, rfl⟩
  have hN1 : 1 ≤ N := by rw [← hN]; unfold absI; omega
  have hN2 : N ≤ 100000000000000 := by rw [← hN]; unfold absI; omega
  have hmx : ∀ (w : World) (ts : Array TypeId) (t : TypeId), (Builtin.max_ ts t #[.int .i64 (4 * coV A B), .int .i64 (-4 * coV A B)]).run Tryz.prog w = .ok (.int .i64 N) w := fun w ts t => by
    rw [← hN]
    by_cases h' : 4 * coV A B ≤ -4 * coV A B
    · simp [go_sem, h']; unfold absI; omega
    · simp [go_sem, h']; unfold absI; omega
  obtain ⟨g1, hg1⟩ : ∃ v, gcdI (ab t % N) N = v := ⟨_, rfl⟩
  have hv : gcdI (ab s % g1) g1 = v := by rw [← ev, ← hg1, hN]; exact dv_impl (by omega)
  have hg2 : 1 ≤ g1 := by rw [← hg1]; exact gcdI_pos (by omega)
  have hg3 : g1 ≤ N := by
    rw [← hg1]
    have := gcdI_le (a := ab t % N) (b := N) (by omega)
    have e : absI N = N := by unfold absI; omega
    omega
  have lt' : ln t ≤ 9000 := by
    rw [← et]; unfold topZ
    have a1 := ln_small (a := 2 * A) (by omega) (by omega)
    have a2 := ln_small (a := 8 * B) (by omega) (by omega)
    have hAA := mul_bd (a := A) (b := A) (A := 1000) (B := 1000) (by omega) (by omega)
    have a3 := ln_small (a := A * A) (by omega) (by omega)
    have xx := ln_mul_le lx' lx'
    have zz := ln_mul_le lz' lz'
    have xz := ln_mul_le lx' lz'
    have b1 : ln (x * x * (x * x)) ≤ 330 := Nat.le_trans (ln_mul_le xx xx) (by omega)
    have b2 : ln (x * x * (z * z) * (2 * A)) ≤ 330 := Nat.le_trans (ln_mul_le (ln_mul_le xx zz) a1) (by omega)
    have b3 : ln (x * z * (z * z) * (8 * B)) ≤ 331 := Nat.le_trans (ln_mul_le (ln_mul_le xz zz) a2) (by omega)
    have b4 : ln (z * z * (z * z) * (A * A)) ≤ 332 := Nat.le_trans (ln_mul_le (ln_mul_le zz zz) a3) (by omega)
    exact Nat.le_trans (ln_add_le (ln_sub_le (ln_sub_le b1 b2) b3) b4) (by omega)
  have ls' : ln s ≤ 9000 := by
    rw [← es]; unfold botZ
    have a1 := ln_small (a := A) (by omega) (by omega)
    have a2 := ln_small (a := B) (by omega) (by omega)
    have a4 := ln_small (a := 4) (by omega) (by omega)
    have zz := ln_mul_le lz' lz'
    have b1 : ln (x * x * x) ≤ 330 := Nat.le_trans (ln_mul_le (ln_mul_le lx' lx') lx') (by omega)
    have b2 : ln (x * (z * z) * A) ≤ 330 := Nat.le_trans (ln_mul_le (ln_mul_le lx' zz) a1) (by omega)
    have b3 : ln (z * (z * z) * B) ≤ 331 := Nat.le_trans (ln_mul_le (ln_mul_le lz' zz) a2) (by omega)
    exact Nat.le_trans (ln_mul_le (ln_mul_le lz' (ln_add_le (ln_add_le b1 b2) b3)) a4) (by omega)
  have HV := Lib.hid hv
  have HG := Lib.hid hg1
  have ET := Lib.hid et
  have ES := Lib.hid es
  clear ev hN hv hg1 et es
  go_enter Tryz.func127, Tryz.ntmps127
  go_wp2_with fail
  refine chk (fun W => Below w.heap.size w W ∧ W.heap[w.heap.size]? = some (.cells #[.int .i64 A, .int .i64 B] 32 (0, 0)) ∧ W.heap[w.heap.size + 1]? = some (.cells #[.bool b, .slice a n c, .bool b2, .slice a2 n2 c2] 109 (0, 0)) ∧ Wx W b a n c x ∧ Wx W b2 a2 n2 c2 z) (by refine ⟨?_, ?_, ?_, ?_, ?_⟩ <;> (repeat' first | (with_reducible first | assumption | (apply Ne.symm; assumption) | apply Nat.le_refl | apply Nat.le_add_right | apply zL | apply zRf | apply Wx.box | apply Wx.box4 | apply zWa | apply Wx.drew | apply zWn | apply bx_drew | apply bx_drewN | apply bx_set3 | apply bx_set2 | apply bx_set4 | apply bx_set1) | ((with_reducible apply bx_new); (focus (go_size; done))) | (with_reducible first | apply zOl | apply zFa | apply zDn | apply zDr | apply zAl | apply zSt | refine zVi (by assumption) ?_ ?_) | go_size | omega)) ?_
  try clear hx
  try clear hz
  rintro w1 ⟨hB1, H_C_1, H_R_1, hx', hz'⟩
  obtain ⟨k_C_1_0, k_C_1_1, f_C_1, l_C_1⟩ := bk2 H_C_1
  replace H_C_1 := Lib.hid H_C_1
  obtain ⟨k_R_1_0, k_R_1_1, k_R_1_2, k_R_1_3, f_R_1, l_R_1⟩ := bk4 H_R_1
  replace H_R_1 := Lib.hid H_R_1
  have hx := hx'
  clear hx'
  have hz := hz'
  clear hz'
  refine wp_open (n := 7) (by kernel_rfl) (by kernel_rfl) (by kernel_rfl) (by kernel_rfl) ?_
  simp only [List.take_succ_cons, List.take_zero]
  apply wpS_quiet
  · intro γ W hW hp
    have hs := hW.size
    (try simp only [World.size_alloc, World.size_setCell, World.size_drew, World.size_drewN'] at hs)
    have kx_0 := fun x : Over W => ((cellAt x.lies (w.heap.size) (by omega) 0).trans (cellAt hW (w.heap.size) (by first | omega | go_size) 0)).trans k_C_1_0
    have kx_1 := fun x : Over W => ((cellAt x.lies (w.heap.size) (by omega) 1).trans (cellAt hW (w.heap.size) (by first | omega | go_size) 1)).trans k_C_1_1
    clear hW hp
    refine ⟨rfl, ?_⟩
    go_big_quiet_op
    first | exact rfl
  · exact locS_const _
  try simp only [Act.put, List.setIfInBounds_toArray, List.set_cons_succ, List.set_cons_zero, Nat.reduceAdd]
  apply wpS_quiet
  · intro γ W hW hp
    refine ⟨rfl, ?_⟩
    go_big_quiet_op
    apply Exists.intro
    refine ⟨fun x => ?_, ?_⟩
    · (first | (go_at_call 73; exact draw_of _ (core_any A B _ hA hBB)))
    exact rfl
  · exact locS_const _
  try simp only [Act.put, List.setIfInBounds_toArray, List.set_cons_succ, List.set_cons_zero, Nat.reduceAdd]
  apply wpS_quiet
  · intro γ W hW hp
    refine ⟨rfl, ?_⟩
    go_big_quiet_op
    first | exact rfl
  · exact locS_const _
  try simp only [Act.put, List.setIfInBounds_toArray, List.set_cons_succ, List.set_cons_zero, Nat.reduceAdd]
  apply wpS_quiet
  · intro γ W hW hp
    have hs := hW.size
    (try simp only [World.size_alloc, World.size_setCell, World.size_drew, World.size_drewN'] at hs)
    have kx_0 := fun x : Over W => ((cellAt x.lies (w.heap.size) (by omega) 0).trans (cellAt hW (w.heap.size) (by first | omega | go_size) 0)).trans k_C_1_0
    have kx_1 := fun x : Over W => ((cellAt x.lies (w.heap.size) (by omega) 1).trans (cellAt hW (w.heap.size) (by first | omega | go_size) 1)).trans k_C_1_1
    clear hW hp
    refine ⟨rfl, ?_⟩
    go_big_quiet_op
    first | exact rfl
  · exact locS_const _
  try simp only [Act.put, List.setIfInBounds_toArray, List.set_cons_succ, List.set_cons_zero, Nat.reduceAdd]
  apply wpS_quiet
  · intro γ W hW hp
    refine ⟨rfl, ?_⟩
    go_big_quiet_op
    apply Exists.intro
    refine ⟨fun x => ?_, ?_⟩
    · (first | (go_at_call 73; exact draw_of _ (core_any A B _ hA hBB)))
    exact rfl
  · exact locS_const _
  try simp only [Act.put, List.setIfInBounds_toArray, List.set_cons_succ, List.set_cons_zero, Nat.reduceAdd]
  apply wpS_quiet
  · intro γ W hW hp
    refine ⟨rfl, ?_⟩
    go_big_quiet_op
    first | exact rfl
  · exact locS_const _
  try simp only [Act.put, List.setIfInBounds_toArray, List.set_cons_succ, List.set_cons_zero, Nat.reduceAdd]
  apply wpS_quiet
  · intro γ W hW hp
    refine ⟨rfl, ?_⟩
    go_big_quiet_op
    first | exact rfl
  · exact locS_const _
  try simp only [Act.put, List.setIfInBounds_toArray, List.set_cons_succ, List.set_cons_zero, Nat.reduceAdd]
  apply wpS_end
  intro γ w2 hb2 hG2 hA2
  clear hG2 hA2
  simp only [List.drop_succ_cons, List.drop_zero]
  have hz2 := hb2.size
  (try simp only [World.size_alloc, World.size_setCell, World.size_drew, World.size_drewN'] at hz2)
  have H_C_2 := (hb2.block (w.heap.size) (blk_lt' H_C_1.out)).trans H_C_1.out
  clear k_C_1_0 k_C_1_1 f_C_1 H_C_1
  obtain ⟨k_C_2_0, k_C_2_1, f_C_2, l_C_2⟩ := bk2 H_C_2
  replace H_C_2 := Lib.hid H_C_2
  have H_R_2 := (hb2.block (w.heap.size + 1) (blk_lt' H_R_1.out)).trans H_R_1.out
  clear k_R_1_0 k_R_1_1 k_R_1_2 k_R_1_3 f_R_1 H_R_1
  obtain ⟨k_R_2_0, k_R_2_1, k_R_2_2, k_R_2_3, f_R_2, l_R_2⟩ := bk4 H_R_2
  replace H_R_2 := Lib.hid H_R_2
  replace hx := hx.below hb2
  replace hz := hz.below hb2
  have hB2 : Below w.heap.size w w2 := below_via hb2 (by assumption) (by go_size)
  go_wp2_with fail
  refine wp_open (n := 9) (by kernel_rfl) (by kernel_rfl) (by kernel_rfl) (by kernel_rfl) ?_
  simp only [List.take_succ_cons, List.take_zero]
  apply wpS_quiet
  · intro γ W hW hp
    have hs := hW.size
    (try simp only [World.size_alloc, World.size_setCell, World.size_drew, World.size_drewN'] at hs)
    have kx_0 := fun x : Over W => ((cellAt x.lies (w.heap.size) (by omega) 0).trans (cellAt hW (w.heap.size) (by first | omega | go_size) 0)).trans k_C_2_0
    have kx_1 := fun x : Over W => ((cellAt x.lies (w.heap.size) (by omega) 1).trans (cellAt hW (w.heap.size) (by first | omega | go_size) 1)).trans k_C_2_1
    clear hW hp
    refine ⟨rfl, ?_⟩
    go_big_quiet_op
    first | exact rfl
  · exact locS_const _
  try simp only [Act.put, List.setIfInBounds_toArray, List.set_cons_succ, List.set_cons_zero, Nat.reduceAdd]
  apply wpS_quiet
  · intro γ W hW hp
    have hs := hW.size
    (try simp only [World.size_alloc, World.size_setCell, World.size_drew, World.size_drewN'] at hs)
    have kx_0 := fun x : Over W => ((cellAt x.lies (w.heap.size + 1) (by omega) 0).trans (cellAt hW (w.heap.size + 1) (by first | omega | go_size) 0)).trans k_R_2_0
    have kx_1 := fun x : Over W => ((cellAt x.lies (w.heap.size + 1) (by omega) 1).trans (cellAt hW (w.heap.size + 1) (by first | omega | go_size) 1)).trans k_R_2_1
    have kx_2 := fun x : Over W => ((cellAt x.lies (w.heap.size + 1) (by omega) 2).trans (cellAt hW (w.heap.size + 1) (by first | omega | go_size) 2)).trans k_R_2_2
    have kx_3 := fun x : Over W => ((cellAt x.lies (w.heap.size + 1) (by omega) 3).trans (cellAt hW (w.heap.size + 1) (by first | omega | go_size) 3)).trans k_R_2_3
    clear hW hp
    refine ⟨rfl, ?_⟩
    go_big_quiet_op
    first | exact rfl
  · exact locS_const _
  try simp only [Act.put, List.setIfInBounds_toArray, List.set_cons_succ, List.set_cons_zero, Nat.reduceAdd]
  apply wpS_open (openW w.heap.size s)
  · intro γ W hW hp
    refine ⟨rfl, ?_⟩
    go_simp
    refine plainNew rfl ?_
    exact open_W (denominatorOf_eq hA hBB (hx.below hW) (hz.below hW) lx' lz' ES.out) (by (have := hW.size; (try simp only [World.size_alloc, World.size_setCell, World.size_drew, World.size_drewN'] at this); omega))
  try simp only [Act.put, List.setIfInBounds_toArray, List.set_cons_succ, List.set_cons_zero, Nat.reduceAdd]
  apply wpS_quiet
  · intro γ W hW hp
    have hs := hW.size
    (try simp only [World.size_alloc, World.size_setCell, World.size_drew, World.size_drewN'] at hs)
    have kx_0 := fun x : Over W => ((cellAt x.lies (w.heap.size) (by omega) 0).trans (cellAt hW (w.heap.size) (by first | omega | go_size) 0)).trans k_C_2_0
    have kx_1 := fun x : Over W => ((cellAt x.lies (w.heap.size) (by omega) 1).trans (cellAt hW (w.heap.size) (by first | omega | go_size) 1)).trans k_C_2_1
    clear hW hp
    refine ⟨rfl, ?_⟩
    go_big_quiet_op
    first | exact rfl
  · exact locS_const _
  try simp only [Act.put, List.setIfInBounds_toArray, List.set_cons_succ, List.set_cons_zero, Nat.reduceAdd]
  apply wpS_quiet
  · intro γ W hW hp
    have hs := hW.size
    (try simp only [World.size_alloc, World.size_setCell, World.size_drew, World.size_drewN'] at hs)
    have kx_0 := fun x : Over W => ((cellAt x.lies (w.heap.size + 1) (by omega) 0).trans (cellAt hW (w.heap.size + 1) (by first | omega | go_size) 0)).trans k_R_2_0
    have kx_1 := fun x : Over W => ((cellAt x.lies (w.heap.size + 1) (by omega) 1).trans (cellAt hW (w.heap.size + 1) (by first | omega | go_size) 1)).trans k_R_2_1
    have kx_2 := fun x : Over W => ((cellAt x.lies (w.heap.size + 1) (by omega) 2).trans (cellAt hW (w.heap.size + 1) (by first | omega | go_size) 2)).trans k_R_2_2
    have kx_3 := fun x : Over W => ((cellAt x.lies (w.heap.size + 1) (by omega) 3).trans (cellAt hW (w.heap.size + 1) (by first | omega | go_size) 3)).trans k_R_2_3
    clear hW hp
    refine ⟨rfl, ?_⟩
    go_big_quiet_op
    first | exact rfl
  · exact locS_const _
  try simp only [Act.put, List.setIfInBounds_toArray, List.set_cons_succ, List.set_cons_zero, Nat.reduceAdd]
  apply wpS_open (openW w.heap.size t)
  · intro γ W hW hp
    refine ⟨rfl, ?_⟩
    go_simp
    refine plainNew rfl ?_
    exact open_W (numeratorOf_eq hA hBB (hx.below hW) (hz.below hW) lx' lz' ET.out) (by (have := hW.size; (try simp only [World.size_alloc, World.size_setCell, World.size_drew, World.size_drewN'] at this); omega))
  try simp only [Act.put, List.setIfInBounds_toArray, List.set_cons_succ, List.set_cons_zero, Nat.reduceAdd]
  apply wpS_quiet
  · intro γ W hW hp
    refine ⟨rfl, ?_⟩
    go_big_quiet_op
    first | exact rfl
  · exact locS_const _
  try simp only [Act.put, List.setIfInBounds_toArray, List.set_cons_succ, List.set_cons_zero, Nat.reduceAdd]
  apply wpS_open (openV (.int .i64 g1))
  · intro γ W hW hp
    have hp_5 := hp _ (List.mem_append_right _ (List.mem_singleton.2 rfl)) (by kernel_rfl)
    dsimp only at hp_5
    refine ⟨rfl, ?_⟩
    go_simp
    refine plainNew rfl ?_
    obtain ⟨b3, a3, n3, c3, e3, h3, _⟩ := hp_5
    rw [e3]
    exact open_V (divisorWith_eq h3 lt' hN1 hN2 HG.out)
  try simp only [Act.put, List.setIfInBounds_toArray, List.set_cons_succ, List.set_cons_zero, Nat.reduceAdd]
  apply wpS_open (openV (.int .i64 v))
  · intro γ W hW hp
    have hp_2 := hp _ (List.mem_append_left _ (List.mem_append_left _ (List.mem_append_right _ (List.mem_singleton.2 rfl)))) (by kernel_rfl)
    dsimp only at hp_2
    have hp_7 := hp _ (List.mem_append_right _ (List.mem_singleton.2 rfl)) (by kernel_rfl)
    dsimp only at hp_7
    refine ⟨rfl, ?_⟩
    go_simp
    refine plainNew rfl ?_
    obtain ⟨b3, a3, n3, c3, e3, h3, _⟩ := hp_2
    have e4 : γ 7 = _ := hp_7
    rw [e3, e4]
    exact open_V (divisorWith_eq h3 ls' hg2 (by omega) HV.out)
  try simp only [Act.put, List.setIfInBounds_toArray, List.set_cons_succ, List.set_cons_zero, Nat.reduceAdd]
  apply wpS_end
  intro γ w3 hb3 hG3 hA3
  have hg3_2 := hG3 _ (List.mem_append_left _ (List.mem_append_left _ (List.mem_append_left _ (List.mem_append_right _ (List.mem_singleton.2 rfl)))))
  dsimp only at hg3_2
  have hg3_5 := hG3 _ (List.mem_append_left _ (List.mem_append_left _ (List.mem_append_right _ (List.mem_singleton.2 rfl))))
  dsimp only at hg3_5
  have hg3_7 := hG3 _ (List.mem_append_left _ (List.mem_append_right _ (List.mem_singleton.2 rfl)))
  dsimp only at hg3_7
  have hg3_8 := hG3 _ (List.mem_append_right _ (List.mem_singleton.2 rfl))
  dsimp only at hg3_8
  clear hG3 hA3
  simp only [List.drop_succ_cons, List.drop_zero]
  have hz3 := hb3.size
  (try simp only [World.size_alloc, World.size_setCell, World.size_drew, World.size_drewN'] at hz3)
  have e8 : γ 8 = .int .i64 v := hg3_8
  simp only [e8]
  go_wp2_with fail
  go_ret
  refine ⟨rfl, ?_⟩
  repeat' first | (with_reducible first | apply zRf | assumption | apply zDn | apply zDr | apply zAl | apply zSt | refine zVi (by assumption) ?_ ?_) | go_size
end
section
open Go.RowKit
set_option linter.unusedVariables false
set_option linter.unusedSimpArgs false
def gwB (b : Bool) (zs : List Int) : Bool := decide (zs.length ≤ 400) && ((zs.all fun z => inB z 0 9999) && ((decide (0 < zs.length) || !b) && (decide (zs.length = 0) || decide (0 < zs.getD (zs.length - 1) 0))))
theorem gwB_cases {b : Bool} {zs : List Int} {n : Nat} (hn : zs.length = n) : (¬ n ≤ 400 ∧ gwB b zs = false) ∨ (n ≤ 400 ∧ ((zs.all fun z => inB z 0 9999) = false ∧ gwB b zs = false ∨ (zs.all fun z => inB z 0 9999) = true ∧
    (n = 0 ∧ (b = true ∧ gwB b zs = false ∨ b = false ∧ gwB b zs = true) ∨ 0 < n ∧ (¬ 0 < zs.getD (n - 1) 0 ∧ gwB b zs = false ∨ 0 < zs.getD (n - 1) 0 ∧ gwB b zs = true)))) := by
  unfold gwB
  rw [hn]
  by_cases h1 : n ≤ 400
  · right
    refine ⟨h1, ?_⟩
    cases h2 : (zs.all fun z => inB z 0 9999)
    · simp
    · right
      refine ⟨rfl, ?_⟩
      by_cases h0 : n = 0
      · left
        subst h0
        cases b <;> simp
      · right
        refine ⟨by omega, ?_⟩
        by_cases h3 : 0 < zs.getD (n - 1) 0
        · right; simp only [h1, decide_true, Bool.true_and]; refine ⟨h3, ?_⟩
          rw [show decide (0 < n) = true by simp; omega, show decide (n = 0) = false by simp; omega, show decide (0 < zs.getD (n - 1) 0) = true by simpa using h3]; rfl
        · left; refine ⟨h3, ?_⟩
          rw [show decide (0 < n) = true by simp; omega, show decide (n = 0) = false by simp; omega, show decide (0 < zs.getD (n - 1) 0) = false by simpa using h3]; simp
  · left
    exact ⟨h1, by simp [h1]⟩
theorem dig_all {zs : List Int} : (zs.all fun z => inB z 0 9999) = true ↔ Dig zs := by
  rw [List.all_eq_true]
  constructor
  · intro h z hz; exact inB_iff.1 (h z hz)
  · intro h z hz; exact inB_iff.2 (h z hz)
theorem can_iff {zs : List Int} (h : 0 < zs.length) (hd : Dig zs) : 0 < zs.getD (zs.length - 1) 0 ↔ Can zs := by
  have hne : zs ≠ [] := by intro e; subst e; simp at h
  have e : zs.getD (zs.length - 1) 0 = zs.getLast hne := by rw [gD_lt (by omega), List.getLast_eq_getElem]
  have hb := hd.getD (zs.length - 1)
  rw [e] at hb ⊢
  constructor
  · intro h1 _; omega
  · intro h1; have := h1 hne; omega
/-- the digits of a whole number -/
theorem gw_self (z : Int) : gwB (ngB z) (limbs (ab z)) = decide (ln z ≤ 400) := by
  have hd := limbs_dig (ab z)
  have hc := limbs_can (ab z)
  unfold gwB
  rw [dig_all.2 hd]
  rcases Nat.eq_zero_or_pos (limbs (ab z)).length with h | h
  · have h0 := ln_zero.1 h
    subst h0
    simp [ln, ngB, h]
  · have h3 := (can_iff h hd).2 hc
    rw [show decide (0 < (limbs (ab z)).length) = true by simpa using h, show decide (0 < (limbs (ab z)).getD ((limbs (ab z)).length - 1) 0) = true by simpa using h3]
    simp [ln]
    try rfl
end
end Go.Proofs.YtgjppinjapdbeaaGreat
