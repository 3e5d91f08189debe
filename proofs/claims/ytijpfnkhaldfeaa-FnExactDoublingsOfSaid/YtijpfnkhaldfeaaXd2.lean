/- Squares, ratios of integers, the sums of the doubling: the reference. -/
import Derived.Test.YtijpfnkhaldfeaaXd1
import Derived.Test.YtijpfnkhaldfeaaBx
import Derived.Test.YtijpfnkhaldfeaaEc1
namespace Go.Proofs.Ytijpfnkhaldfeaa
open Go.RowKit
set_option linter.unusedVariables false
set_option maxHeartbeats 1000000
set_option maxRecDepth 20000
set_option linter.unusedSimpArgs false
attribute [local go_sem] openAt openUpon
theorem bgMul_eq {b b2 : Bool} {a a2 : Option Addr} {n c n2 c2 : Nat} {x y v : Int} {W : World} (h1 : Wx W b a n c x) (h2 : Wx W b2 a2 n2 c2 y) (e : x * y = v) (l1 : ln x ≤ 10000) (l2 : ln y ≤ 10000) :
    Calls Try.prog 45 #[.agg #[.bool b, .slice a n c], .agg #[.bool b2, .slice a2 n2 c2]] W (NewW W v) := by
  subst e; exact bgMul_any b b2 a a2 n c n2 c2 x y W h1 h2 (by have := h1.ln; omega) (by have := h2.ln; omega)
theorem bgTimes_eq {b : Bool} {a : Option Addr} {n c : Nat} {x d v : Int} {W : World} (h1 : Wx W b a n c x) (e : x * d = v) (l1 : ln x ≤ 10000) (hd : -9223372036854775807 ≤ d ∧ d ≤ 9223372036854775807) :
    Calls Try.prog 44 #[.agg #[.bool b, .slice a n c], .int .i64 d] W (NewW W v) := by
  subst e; exact bgTimes_any b a n c x d W h1 (by have := h1.ln; omega) hd.1 hd.2
theorem bgSub_eq {b b2 : Bool} {a a2 : Option Addr} {n c n2 c2 : Nat} {x y v : Int} {W : World} (h1 : Wx W b a n c x) (h2 : Wx W b2 a2 n2 c2 y) (e : x - y = v) (l1 : ln x ≤ 10000) (l2 : ln y ≤ 10000) :
    Calls Try.prog 43 #[.agg #[.bool b, .slice a n c], .agg #[.bool b2, .slice a2 n2 c2]] W (NewW W v) := by
  subst e; exact bgSub_any b b2 a a2 n c n2 c2 x y W h1 h2 (by have := h1.ln; omega) (by have := h2.ln; omega)
theorem bgAdd_eq {b b2 : Bool} {a a2 : Option Addr} {n c n2 c2 : Nat} {x y v : Int} {W : World} (h1 : Wx W b a n c x) (h2 : Wx W b2 a2 n2 c2 y) (e : x + y = v) (l1 : ln x ≤ 10000) (l2 : ln y ≤ 10000) :
    Calls Try.prog 46 #[.agg #[.bool b, .slice a n c], .agg #[.bool b2, .slice a2 n2 c2]] W (NewW W v) := by
  subst e; exact bgAdd_any b b2 a a2 n c n2 c2 x y W h1 h2 (by have := h1.ln; omega) (by have := h2.ln; omega)
theorem xdSquare_eq {b : Bool} {a : Option Addr} {n c : Nat} {x v : Int} {w : World} (hs : Wx w b a n c x) (e : x * x = v) (l1 : ln x ≤ 10000) :
    Calls Try.prog 42 #[.agg #[.bool b, .slice a n c]] w (NewW w v) := by
  have E := Lib.hid e
  clear e
  have e := E.out
  replace e := Lib.hid e
  have tok1 : True := trivial
  go_enter Try.func42, Try.ntmps42
  go_wp2_with (first | (have _t := tok1; go_at_call 45; (with_reducible refine ((bgMul_eq (hs.below (by repeat' first | (with_reducible first | apply zRf | assumption | apply zDn | apply zDr | apply zAl | apply zSt | refine zVi (by assumption) ?_ ?_) | go_size)) (hs.below (by repeat' first | (with_reducible first | apply zRf | assumption | apply zDn | apply zDr | apply zAl | apply zSt | refine zVi (by assumption) ?_ ?_) | go_size)) E.out l1 l1)).mono ?_); rintro e w1 ⟨b7, a7, n7, c7, rfl, h7, f7, hb1⟩; clear tok1 _t; have hz1 := hb1.size; (try simp only [World.size_alloc, World.size_setCell, World.size_drew, World.size_drewN'] at hz1); (try (have kq := cellAt hb1 (w.heap.size) (by go_size); have k1_w_0_0 := kq 0; have k1_w_0_1 := kq 1; clear kq; have f1_w_0 := frozAt hb1 (w.heap.size) (by go_size); simp [go_sem, *] at k1_w_0_0 k1_w_0_1 f1_w_0)); (try have l1_w_0 : w.heap.size < w1.heap.size := by omega); (try (have kq := cellAt hb1 (w.heap.size + 1) (by go_size); have k1_w_1_0 := kq 0; have k1_w_1_1 := kq 1; clear kq; have f1_w_1 := frozAt hb1 (w.heap.size + 1) (by go_size); simp [go_sem, *] at k1_w_1_0 k1_w_1_1 f1_w_1)); (try have l1_w_1 : w.heap.size + 1 < w1.heap.size := by omega)))
  refine bodyPost_ret (v := .agg #[.bool b7, .slice a7 n7 c7]) (by simp [results, Try.results42, go_sem, *]) rfl ⟨_, _, _, _, rfl, ⟨h7.neg, ?_⟩, ?_, ?_⟩
  · have hr7 := h7.row
    (repeat' first | exact hr7 | refine Sx.set ?_ ?_ _ _ | refine Sx.alloc ?_ _ | refine Sx.drew ?_ | (intro A e; have := f7 A e; (try simp only [World.size_alloc, World.size_setCell, World.size_drew, World.size_drewN'] at this); omega))
  · (intro A e; have := f7 A e; (try simp only [World.size_alloc, World.size_setCell, World.size_drew, World.size_drewN'] at this); omega)
  repeat' first | (with_reducible first | apply zRf | assumption | apply zDn | apply zDr | apply zAl | apply zSt | refine zVi (by assumption) ?_ ?_) | go_size
theorem xdTop_any (A B x z : Int) (b b2 : Bool) (a a2 : Option Addr) (n c n2 c2 : Nat) (w : World) (hA : -1000 ≤ A ∧ A ≤ 1000) (hBB : -10000 ≤ B ∧ B ≤ 10000) (hx : Wx w b a n c x) (hz : Wx w b2 a2 n2 c2 z) (lx : ln x ≤ 80) (lz : ln z ≤ 80) :
    Calls Try.prog 30 #[.agg #[.int .i64 A, .int .i64 B], .agg #[.bool b, .slice a n c, .bool b2, .slice a2 n2 c2]] w (NewW w (topZ A B x z)) := by
  obtain ⟨x2, hx2⟩ : ∃ v, x * x = v := ⟨_, rfl⟩
  obtain ⟨z2, hz2⟩ : ∃ v, z * z = v := ⟨_, rfl⟩
  obtain ⟨p1, hp1⟩ : ∃ v, x2 * x2 = v := ⟨_, rfl⟩
  obtain ⟨p2, hp2⟩ : ∃ v, x2 * z2 = v := ⟨_, rfl⟩
  obtain ⟨p3, hp3⟩ : ∃ v, p2 * (2 * A) = v := ⟨_, rfl⟩
  obtain ⟨p4, hp4⟩ : ∃ v, p1 - p3 = v := ⟨_, rfl⟩
  obtain ⟨q1, hq1⟩ : ∃ v, x * z = v := ⟨_, rfl⟩
  obtain ⟨q2, hq2⟩ : ∃ v, q1 * z2 = v := ⟨_, rfl⟩
  obtain ⟨q3, hq3⟩ : ∃ v, q2 * (8 * B) = v := ⟨_, rfl⟩
  obtain ⟨q4, hq4⟩ : ∃ v, p4 - q3 = v := ⟨_, rfl⟩
  obtain ⟨r1, hr1⟩ : ∃ v, z2 * z2 = v := ⟨_, rfl⟩
  obtain ⟨r2, hr2⟩ : ∃ v, r1 * (A * A) = v := ⟨_, rfl⟩
  obtain ⟨t, ht0⟩ : ∃ v, topZ A B x z = v := ⟨_, rfl⟩
  have RT := Lib.hid (show q4 + r2 = t by rw [← ht0]; subst hx2 hz2 hp1 hp2 hp3 hp4 hq1 hq2 hq3 hq4 hr1 hr2; rfl)
  have hAA := mul_bd (a := A) (b := A) (A := 1000) (B := 1000) (by omega) (by omega)
  have l2A := ln_small (a := 2 * A) (by omega) (by omega)
  have l8B := ln_small (a := 8 * B) (by omega) (by omega)
  have lAA := ln_small (a := A * A) (by omega) (by omega)
  have m1 : ln x2 ≤ 160 := by rw [← hx2]; exact ln_mul_le lx lx
  have m2 : ln z2 ≤ 160 := by rw [← hz2]; exact ln_mul_le lz lz
  have m3 : ln p1 ≤ 320 := by rw [← hp1]; exact ln_mul_le m1 m1
  have m4 : ln p2 ≤ 320 := by rw [← hp2]; exact ln_mul_le m1 m2
  have m5 : ln p3 ≤ 325 := by rw [← hp3]; exact ln_mul_le m4 l2A
  have m6 : ln p4 ≤ 326 := by rw [← hp4]; exact ln_sub_le (by omega) m5
  have m7 : ln q1 ≤ 160 := by rw [← hq1]; exact ln_mul_le lx lz
  have m8 : ln q2 ≤ 320 := by rw [← hq2]; exact ln_mul_le m7 m2
  have m9 : ln q3 ≤ 325 := by rw [← hq3]; exact ln_mul_le m8 l8B
  have m10 : ln q4 ≤ 327 := by rw [← hq4]; exact ln_sub_le m6 (by omega)
  have m11 : ln r1 ≤ 320 := by rw [← hr1]; exact ln_mul_le m2 m2
  have m12 : ln r2 ≤ 325 := by rw [← hr2]; exact ln_mul_le m11 lAA
  rw [ht0]
  have X2 := Lib.hid hx2; have Z2 := Lib.hid hz2; have P1 := Lib.hid hp1; have P2 := Lib.hid hp2; have P3 := Lib.hid hp3; have P4 := Lib.hid hp4
  have Q1 := Lib.hid hq1; have Q2 := Lib.hid hq2; have Q3 := Lib.hid hq3; have Q4 := Lib.hid hq4; have R1 := Lib.hid hr1; have R2 := Lib.hid hr2
  clear hx2 hz2 hp1 hp2 hp3 hp4 hq1 hq2 hq3 hq4 hr1 hr2 ht0 l2A l8B lAA
  go_enter Try.func30, Try.ntmps30
  go_wp2_with fail
  refine chk (fun W => Below w.heap.size w W ∧ W.heap[w.heap.size]? = some (.cells #[.int .i64 A, .int .i64 B] 33 (0, 0)) ∧ W.heap[w.heap.size + 1]? = some (.cells #[.bool b, .slice a n c, .bool b2, .slice a2 n2 c2] 37 (0, 0)) ∧ W.heap[w.heap.size + 1 + 1]? = some (.cells #[.bool false, .slice none 0 0] 35 (0, 0)) ∧ Wx W b a n c x ∧ Wx W b2 a2 n2 c2 z) (by refine ⟨?_, ?_, ?_, ?_, ?_, ?_⟩ <;> (repeat' first | (with_reducible first | assumption | (apply Ne.symm; assumption) | apply Nat.le_refl | apply Nat.le_add_right | apply zL | apply zRf | apply Wx.box | apply Wx.box4 | apply zWa | apply Wx.drew | apply zWn | apply bx_drew | apply bx_drewN | apply bx_set3 | apply bx_set2 | apply bx_set4 | apply bx_set1) | ((with_reducible apply bx_new); (focus (go_size; done))) | (with_reducible first | apply zOl | apply zFa | apply zDn | apply zDr | apply zAl | apply zSt | refine zVi (by assumption) ?_ ?_) | go_size | omega)) ?_
  try clear hx
  try clear hz
  rintro w1 ⟨hB1, H_C_1, H_R_1, H_O_1, hx', hz'⟩
  obtain ⟨k_C_1_0, k_C_1_1, f_C_1, l_C_1⟩ := bk2 H_C_1
  replace H_C_1 := Lib.hid H_C_1
  obtain ⟨k_R_1_0, k_R_1_1, k_R_1_2, k_R_1_3, f_R_1, l_R_1⟩ := bk4 H_R_1
  replace H_R_1 := Lib.hid H_R_1
  obtain ⟨k_O_1_0, k_O_1_1, f_O_1, l_O_1⟩ := bk2 H_O_1
  replace H_O_1 := Lib.hid H_O_1
  have hx := hx'
  clear hx'
  have hz := hz'
  clear hz'
  go_region
  go_wp2_with fail
  replace H_C_1 := H_C_1.out
  replace H_R_1 := H_R_1.out
  replace H_O_1 := H_O_1.out
  refine chk (fun W => Below w.heap.size w W ∧ W.heap[w.heap.size]? = some (.cells #[.int .i64 A, .int .i64 B] 33 (0, 0)) ∧ W.heap[w.heap.size + 1 + 1]? = some (.cells #[.bool false, .slice none 0 0] 35 (0, 0)) ∧ W.heap[w1.heap.size]? = some (.cells #[.bool b, .slice a n c] 35 (0, 0)) ∧ W.heap[w1.heap.size + 1]? = some (.cells #[.bool b2, .slice a2 n2 c2] 35 (0, 0)) ∧ Wx W b a n c x ∧ Wx W b2 a2 n2 c2 z) (by refine ⟨?_, ?_, ?_, ?_, ?_, ?_, ?_⟩ <;> (repeat' first | (with_reducible first | assumption | (apply Ne.symm; assumption) | apply Nat.le_refl | apply Nat.le_add_right | apply zL | apply zRf | apply Wx.box | apply Wx.box4 | apply zWa | apply Wx.drew | apply zWn | apply bx_drew | apply bx_drewN | apply bx_set3 | apply bx_set2 | apply bx_set4 | apply bx_set1) | ((with_reducible apply bx_new); (focus (go_size; done))) | (with_reducible first | apply zOl | apply zFa | apply zDn | apply zDr | apply zAl | apply zSt | refine zVi (by assumption) ?_ ?_) | go_size | omega)) ?_
  try clear hx
  try clear hz
  clear k_C_1_0 k_C_1_1 f_C_1 H_C_1
  clear k_R_1_0 k_R_1_1 k_R_1_2 k_R_1_3 f_R_1 H_R_1
  clear k_O_1_0 k_O_1_1 f_O_1 H_O_1
  clear hB1
  rintro w3 ⟨hB3, H_C_3, H_O_3, H_X_3, H_Z_3, hx', hz'⟩
  obtain ⟨k_C_3_0, k_C_3_1, f_C_3, l_C_3⟩ := bk2 H_C_3
  replace H_C_3 := Lib.hid H_C_3
  obtain ⟨k_O_3_0, k_O_3_1, f_O_3, l_O_3⟩ := bk2 H_O_3
  replace H_O_3 := Lib.hid H_O_3
  obtain ⟨k_X_3_0, k_X_3_1, f_X_3, l_X_3⟩ := bk2 H_X_3
  replace H_X_3 := Lib.hid H_X_3
  obtain ⟨k_Z_3_0, k_Z_3_1, f_Z_3, l_Z_3⟩ := bk2 H_Z_3
  replace H_Z_3 := Lib.hid H_Z_3
  have hx := hx'
  clear hx'
  have hz := hz'
  clear hz'
  generalize w1.heap.size + 1 = gz at *
  generalize w1.heap.size = gx at *
  clear w1
  rotate_left
  go_wp2_with fail
  replace H_C_1 := H_C_1.out
  replace H_R_1 := H_R_1.out
  replace H_O_1 := H_O_1.out
  refine chk (fun W => Below w.heap.size w W ∧ W.heap[w.heap.size]? = some (.cells #[.int .i64 A, .int .i64 B] 33 (0, 0)) ∧ W.heap[w.heap.size + 1 + 1]? = some (.cells #[.bool false, .slice none 0 0] 35 (0, 0)) ∧ W.heap[w1.heap.size + 1]? = some (.cells #[.bool b, .slice a n c] 35 (0, 0)) ∧ W.heap[w1.heap.size]? = some (.cells #[.bool b2, .slice a2 n2 c2] 35 (0, 0)) ∧ Wx W b a n c x ∧ Wx W b2 a2 n2 c2 z) (by refine ⟨?_, ?_, ?_, ?_, ?_, ?_, ?_⟩ <;> (repeat' first | (with_reducible first | assumption | (apply Ne.symm; assumption) | apply Nat.le_refl | apply Nat.le_add_right | apply zL | apply zRf | apply Wx.box | apply Wx.box4 | apply zWa | apply Wx.drew | apply zWn | apply bx_drew | apply bx_drewN | apply bx_set3 | apply bx_set2 | apply bx_set4 | apply bx_set1) | ((with_reducible apply bx_new); (focus (go_size; done))) | (with_reducible first | apply zOl | apply zFa | apply zDn | apply zDr | apply zAl | apply zSt | refine zVi (by assumption) ?_ ?_) | go_size | omega)) ?_
  try clear hx
  try clear hz
  clear k_C_1_0 k_C_1_1 f_C_1 H_C_1
  clear k_R_1_0 k_R_1_1 k_R_1_2 k_R_1_3 f_R_1 H_R_1
  clear k_O_1_0 k_O_1_1 f_O_1 H_O_1
  clear hB1
  rintro w3 ⟨hB3, H_C_3, H_O_3, H_X_3, H_Z_3, hx', hz'⟩
  obtain ⟨k_C_3_0, k_C_3_1, f_C_3, l_C_3⟩ := bk2 H_C_3
  replace H_C_3 := Lib.hid H_C_3
  obtain ⟨k_O_3_0, k_O_3_1, f_O_3, l_O_3⟩ := bk2 H_O_3
  replace H_O_3 := Lib.hid H_O_3
  obtain ⟨k_X_3_0, k_X_3_1, f_X_3, l_X_3⟩ := bk2 H_X_3
  replace H_X_3 := Lib.hid H_X_3
  obtain ⟨k_Z_3_0, k_Z_3_1, f_Z_3, l_Z_3⟩ := bk2 H_Z_3
  replace H_Z_3 := Lib.hid H_Z_3
  have hx := hx'
  clear hx'
  have hz := hz'
  clear hz'
  generalize w1.heap.size + 1 = gx at *
  generalize w1.heap.size = gz at *
  clear w1
  all_goals
    refine wp_open (n := 6) (by kernel_rfl) (by kernel_rfl) (by kernel_rfl) (by kernel_rfl) ?_
    simp only [List.take_succ_cons, List.take_zero]
    apply wpS_quiet
    · intro γ W hW hp
      have hs := hW.size
      (try simp only [World.size_alloc, World.size_setCell, World.size_drew, World.size_drewN'] at hs)
      have kx_0 := fun x : Over W => ((cellAt x.lies (gx) (by omega) 0).trans (cellAt hW (gx) (by first | omega | go_size) 0)).trans k_X_3_0
      have kx_1 := fun x : Over W => ((cellAt x.lies (gx) (by omega) 1).trans (cellAt hW (gx) (by first | omega | go_size) 1)).trans k_X_3_1
      clear hW hp
      refine ⟨rfl, ?_⟩
      go_big_quiet_op
      first | exact rfl
    · exact locS_const _
    try simp only [Act.put, List.setIfInBounds_toArray, List.set_cons_succ, List.set_cons_zero, Nat.reduceAdd]
    apply wpS_open (openW w.heap.size x2)
    · intro γ W hW hp
      refine ⟨rfl, ?_⟩
      go_simp
      refine plainNew rfl ?_
      exact open_W (xdSquare_eq (hx.below hW) X2.out (by omega)) (by (have := hW.size; (try simp only [World.size_alloc, World.size_setCell, World.size_drew, World.size_drewN'] at this); omega))
    try simp only [Act.put, List.setIfInBounds_toArray, List.set_cons_succ, List.set_cons_zero, Nat.reduceAdd]
    apply wpS_quiet
    · intro γ W hW hp
      have hs := hW.size
      (try simp only [World.size_alloc, World.size_setCell, World.size_drew, World.size_drewN'] at hs)
      have kx_0 := fun x : Over W => ((cellAt x.lies (gz) (by omega) 0).trans (cellAt hW (gz) (by first | omega | go_size) 0)).trans k_Z_3_0
      have kx_1 := fun x : Over W => ((cellAt x.lies (gz) (by omega) 1).trans (cellAt hW (gz) (by first | omega | go_size) 1)).trans k_Z_3_1
      clear hW hp
      refine ⟨rfl, ?_⟩
      go_big_quiet_op
      first | exact rfl
    · exact locS_const _
    try simp only [Act.put, List.setIfInBounds_toArray, List.set_cons_succ, List.set_cons_zero, Nat.reduceAdd]
    apply wpS_open (openW w.heap.size z2)
    · intro γ W hW hp
      refine ⟨rfl, ?_⟩
      go_simp
      refine plainNew rfl ?_
      exact open_W (xdSquare_eq (hz.below hW) Z2.out (by omega)) (by (have := hW.size; (try simp only [World.size_alloc, World.size_setCell, World.size_drew, World.size_drewN'] at this); omega))
    try simp only [Act.put, List.setIfInBounds_toArray, List.set_cons_succ, List.set_cons_zero, Nat.reduceAdd]
    apply wpS_open (newBox _ _ _)
    · intro γ W hW hp
      refine ⟨rfl, ?_⟩
      go_simp
      exact ⟨⟨⟨_, rfl, hW.size, heap_alloc_new _ _⟩, fun _ => ⟨_, rfl, Nat.le_refl _, by simp⟩⟩, (Below.refl _ _).alloc (Nat.le_refl _) _⟩
    try simp only [Act.put, List.setIfInBounds_toArray, List.set_cons_succ, List.set_cons_zero, Nat.reduceAdd]
    apply wpS_open (newBox _ _ _)
    · intro γ W hW hp
      refine ⟨rfl, ?_⟩
      go_simp
      exact ⟨⟨⟨_, rfl, hW.size, heap_alloc_new _ _⟩, fun _ => ⟨_, rfl, Nat.le_refl _, by simp⟩⟩, (Below.refl _ _).alloc (Nat.le_refl _) _⟩
    try simp only [Act.put, List.setIfInBounds_toArray, List.set_cons_succ, List.set_cons_zero, Nat.reduceAdd]
    apply wpS_end
    intro γ w4 hb4 hG4 hA4
    have hg4_1 := hG4 _ (List.mem_append_left _ (List.mem_append_left _ (List.mem_append_left _ (List.mem_append_right _ (List.mem_singleton.2 rfl)))))
    dsimp only at hg4_1
    have hg4_3 := hG4 _ (List.mem_append_left _ (List.mem_append_left _ (List.mem_append_right _ (List.mem_singleton.2 rfl))))
    dsimp only at hg4_3
    obtain ⟨g4_4, e4_4, l4_4, k4_4⟩ := hG4 _ (List.mem_append_left _ (List.mem_append_right _ (List.mem_singleton.2 rfl)))
    dsimp only at e4_4 l4_4 k4_4
    obtain ⟨g4_5, e4_5, l4_5, k4_5⟩ := hG4 _ (List.mem_append_right _ (List.mem_singleton.2 rfl))
    dsimp only at e4_5 l4_5 k4_5
    have kb4_4 := fun o => blk_cell k4_4 o
    have fb4_4 := fun o => blk_frozen k4_4 o
    have lb4_4 := blk_lt' k4_4
    have kb4_5 := fun o => blk_cell k4_5 o
    have fb4_5 := fun o => blk_frozen k4_5 o
    have lb4_5 := blk_lt' k4_5
    have hne4_4_5 : g4_4 ≠ g4_5 := fun ee => hA4 _ (List.mem_append_left _ (List.mem_append_right _ (List.mem_singleton.2 rfl))) _ (List.mem_append_right _ (List.mem_singleton.2 rfl)) rfl rfl (show (4 : Nat) ≠ 5 by decide) (by dsimp only; rw [e4_4, e4_5, ee])
    have ne4_4_C : w.heap.size ≠ g4_4 := Nat.ne_of_lt (Nat.lt_of_lt_of_le l_C_3 l4_4)
    have ne4_4_O : w.heap.size + 1 + 1 ≠ g4_4 := Nat.ne_of_lt (Nat.lt_of_lt_of_le l_O_3 l4_4)
    have ne4_4_X : gx ≠ g4_4 := Nat.ne_of_lt (Nat.lt_of_lt_of_le l_X_3 l4_4)
    have ne4_4_Z : gz ≠ g4_4 := Nat.ne_of_lt (Nat.lt_of_lt_of_le l_Z_3 l4_4)
    have lw4_4 : w.heap.size ≤ g4_4 := Nat.le_trans hB3.size l4_4
    have ne4_5_C : w.heap.size ≠ g4_5 := Nat.ne_of_lt (Nat.lt_of_lt_of_le l_C_3 l4_5)
    have ne4_5_O : w.heap.size + 1 + 1 ≠ g4_5 := Nat.ne_of_lt (Nat.lt_of_lt_of_le l_O_3 l4_5)
    have ne4_5_X : gx ≠ g4_5 := Nat.ne_of_lt (Nat.lt_of_lt_of_le l_X_3 l4_5)
    have ne4_5_Z : gz ≠ g4_5 := Nat.ne_of_lt (Nat.lt_of_lt_of_le l_Z_3 l4_5)
    have lw4_5 : w.heap.size ≤ g4_5 := Nat.le_trans hB3.size l4_5
    clear hG4 hA4
    try simp only [e4_4, e4_5]
    clear e4_4
    clear e4_5
    simp only [List.drop_succ_cons, List.drop_zero]
    have hz4 := hb4.size
    (try simp only [World.size_alloc, World.size_setCell, World.size_drew, World.size_drewN'] at hz4)
    obtain ⟨b3, a3, n3, c3, e3, hs, -⟩ := hg4_1
    obtain ⟨b4, a4, n4, c4, e4, ht, -⟩ := hg4_3
    simp only [e3, e4]
    clear e3 e4
    have H_C_4 := (hb4.block (w.heap.size) (blk_lt' H_C_3.out)).trans H_C_3.out
    clear k_C_3_0 k_C_3_1 f_C_3 H_C_3
    obtain ⟨k_C_4_0, k_C_4_1, f_C_4, l_C_4⟩ := bk2 H_C_4
    replace H_C_4 := Lib.hid H_C_4
    have H_O_4 := (hb4.block (w.heap.size + 1 + 1) (blk_lt' H_O_3.out)).trans H_O_3.out
    clear k_O_3_0 k_O_3_1 f_O_3 H_O_3
    obtain ⟨k_O_4_0, k_O_4_1, f_O_4, l_O_4⟩ := bk2 H_O_4
    replace H_O_4 := Lib.hid H_O_4
    have H_X_4 := (hb4.block (gx) (blk_lt' H_X_3.out)).trans H_X_3.out
    clear k_X_3_0 k_X_3_1 f_X_3 H_X_3
    obtain ⟨k_X_4_0, k_X_4_1, f_X_4, l_X_4⟩ := bk2 H_X_4
    replace H_X_4 := Lib.hid H_X_4
    have H_Z_4 := (hb4.block (gz) (blk_lt' H_Z_3.out)).trans H_Z_3.out
    clear k_Z_3_0 k_Z_3_1 f_Z_3 H_Z_3
    obtain ⟨k_Z_4_0, k_Z_4_1, f_Z_4, l_Z_4⟩ := bk2 H_Z_4
    replace H_Z_4 := Lib.hid H_Z_4
    replace hx := hx.below hb4
    replace hz := hz.below hb4
    have hB4 : Below w.heap.size w w4 := below_via hb4 (by assumption) (by first | exact hB3.size | go_size)
    go_wp2_with fail
    replace H_C_4 := H_C_4.out
    replace H_O_4 := H_O_4.out
    replace H_X_4 := H_X_4.out
    replace H_Z_4 := H_Z_4.out
    refine chk (fun W => Below w.heap.size w W ∧ W.heap[w.heap.size]? = some (.cells #[.int .i64 A, .int .i64 B] 33 (0, 0)) ∧ W.heap[w.heap.size + 1 + 1]? = some (.cells #[.bool false, .slice none 0 0] 35 (0, 0)) ∧ W.heap[gx]? = some (.cells #[.bool b, .slice a n c] 35 (0, 0)) ∧ W.heap[gz]? = some (.cells #[.bool b2, .slice a2 n2 c2] 35 (0, 0)) ∧ W.heap[g4_4]? = some (.cells #[.bool b3, .slice a3 n3 c3] 35 (0, 0)) ∧ W.heap[g4_5]? = some (.cells #[.bool b4, .slice a4 n4 c4] 35 (0, 0)) ∧ Wx W b a n c x ∧ Wx W b2 a2 n2 c2 z ∧ Wx W b3 a3 n3 c3 x2 ∧ Wx W b4 a4 n4 c4 z2) (by refine ⟨?_, ?_, ?_, ?_, ?_, ?_, ?_, ?_, ?_, ?_, ?_⟩ <;> (repeat' first | (with_reducible first | assumption | (apply Ne.symm; assumption) | apply Nat.le_refl | apply Nat.le_add_right | apply zL | apply zRf | apply Wx.box | apply Wx.box4 | apply zWa | apply Wx.drew | apply zWn | apply bx_drew | apply bx_drewN | apply bx_set3 | apply bx_set2 | apply bx_set4 | apply bx_set1) | ((with_reducible apply bx_new); (focus (go_size; done))) | (with_reducible first | apply zOl | apply zFa | apply zDn | apply zDr | apply zAl | apply zSt | refine zVi (by assumption) ?_ ?_) | go_size | omega)) ?_
    try clear hx
    try clear hz
    try clear hs
    try clear ht
    clear k_C_4_0 k_C_4_1 f_C_4 H_C_4
    clear k_O_4_0 k_O_4_1 f_O_4 H_O_4
    clear k_X_4_0 k_X_4_1 f_X_4 H_X_4
    clear k_Z_4_0 k_Z_4_1 f_Z_4 H_Z_4
    clear hB4
    try clear kb4_4
    try clear fb4_4
    try clear k4_4
    try clear kb4_5
    try clear fb4_5
    try clear k4_5
    rintro w5 ⟨hB5, H_C_5, H_O_5, H_X_5, H_Z_5, H_S_5, H_T_5, hx', hz', hs', ht'⟩
    obtain ⟨k_C_5_0, k_C_5_1, f_C_5, l_C_5⟩ := bk2 H_C_5
    replace H_C_5 := Lib.hid H_C_5
    obtain ⟨k_O_5_0, k_O_5_1, f_O_5, l_O_5⟩ := bk2 H_O_5
    replace H_O_5 := Lib.hid H_O_5
    obtain ⟨k_X_5_0, k_X_5_1, f_X_5, l_X_5⟩ := bk2 H_X_5
    replace H_X_5 := Lib.hid H_X_5
    obtain ⟨k_Z_5_0, k_Z_5_1, f_Z_5, l_Z_5⟩ := bk2 H_Z_5
    replace H_Z_5 := Lib.hid H_Z_5
    obtain ⟨k_S_5_0, k_S_5_1, f_S_5, l_S_5⟩ := bk2 H_S_5
    replace H_S_5 := Lib.hid H_S_5
    obtain ⟨k_T_5_0, k_T_5_1, f_T_5, l_T_5⟩ := bk2 H_T_5
    replace H_T_5 := Lib.hid H_T_5
    have hx := hx'
    clear hx'
    have hz := hz'
    clear hz'
    have hs := hs'
    clear hs'
    have ht := ht'
    clear ht'
    refine wp_open (n := 11) (by kernel_rfl) (by kernel_rfl) (by kernel_rfl) (by kernel_rfl) ?_
    simp only [List.take_succ_cons, List.take_zero]
    apply wpS_quiet
    · intro γ W hW hp
      have hs := hW.size
      (try simp only [World.size_alloc, World.size_setCell, World.size_drew, World.size_drewN'] at hs)
      have kx_0 := fun x : Over W => ((cellAt x.lies (g4_4) (by omega) 0).trans (cellAt hW (g4_4) (by first | omega | go_size) 0)).trans k_S_5_0
      have kx_1 := fun x : Over W => ((cellAt x.lies (g4_4) (by omega) 1).trans (cellAt hW (g4_4) (by first | omega | go_size) 1)).trans k_S_5_1
      clear hW hp
      refine ⟨rfl, ?_⟩
      go_big_quiet_op
      first | exact rfl
    · exact locS_const _
    try simp only [Act.put, List.setIfInBounds_toArray, List.set_cons_succ, List.set_cons_zero, Nat.reduceAdd]
    apply wpS_open (openW w.heap.size p1)
    · intro γ W hW hp
      refine ⟨rfl, ?_⟩
      go_simp
      refine plainNew rfl ?_
      exact open_W (xdSquare_eq (hs.below hW) P1.out (by omega)) (by (have := hW.size; (try simp only [World.size_alloc, World.size_setCell, World.size_drew, World.size_drewN'] at this); omega))
    try simp only [Act.put, List.setIfInBounds_toArray, List.set_cons_succ, List.set_cons_zero, Nat.reduceAdd]
    apply wpS_quiet
    · intro γ W hW hp
      have hs := hW.size
      (try simp only [World.size_alloc, World.size_setCell, World.size_drew, World.size_drewN'] at hs)
      have kx_0 := fun x : Over W => ((cellAt x.lies (g4_4) (by omega) 0).trans (cellAt hW (g4_4) (by first | omega | go_size) 0)).trans k_S_5_0
      have kx_1 := fun x : Over W => ((cellAt x.lies (g4_4) (by omega) 1).trans (cellAt hW (g4_4) (by first | omega | go_size) 1)).trans k_S_5_1
      clear hW hp
      refine ⟨rfl, ?_⟩
      go_big_quiet_op
      first | exact rfl
    · exact locS_const _
    try simp only [Act.put, List.setIfInBounds_toArray, List.set_cons_succ, List.set_cons_zero, Nat.reduceAdd]
    apply wpS_quiet
    · intro γ W hW hp
      have hs := hW.size
      (try simp only [World.size_alloc, World.size_setCell, World.size_drew, World.size_drewN'] at hs)
      have kx_0 := fun x : Over W => ((cellAt x.lies (g4_5) (by omega) 0).trans (cellAt hW (g4_5) (by first | omega | go_size) 0)).trans k_T_5_0
      have kx_1 := fun x : Over W => ((cellAt x.lies (g4_5) (by omega) 1).trans (cellAt hW (g4_5) (by first | omega | go_size) 1)).trans k_T_5_1
      clear hW hp
      refine ⟨rfl, ?_⟩
      go_big_quiet_op
      first | exact rfl
    · exact locS_const _
    try simp only [Act.put, List.setIfInBounds_toArray, List.set_cons_succ, List.set_cons_zero, Nat.reduceAdd]
    apply wpS_open (openW w.heap.size p2)
    · intro γ W hW hp
      refine ⟨rfl, ?_⟩
      go_simp
      refine plainNew rfl ?_
      exact open_W (bgMul_eq (hs.below hW) (ht.below hW) P2.out (by omega) (by omega)) (by (have := hW.size; (try simp only [World.size_alloc, World.size_setCell, World.size_drew, World.size_drewN'] at this); omega))
    try simp only [Act.put, List.setIfInBounds_toArray, List.set_cons_succ, List.set_cons_zero, Nat.reduceAdd]
    apply wpS_quiet
    · intro γ W hW hp
      refine ⟨rfl, ?_⟩
      go_big_quiet_op
      first | exact rfl
    · exact locS_const _
    try simp only [Act.put, List.setIfInBounds_toArray, List.set_cons_succ, List.set_cons_zero, Nat.reduceAdd]
    apply wpS_quiet
    · intro γ W hW hp
      have hs := hW.size
      (try simp only [World.size_alloc, World.size_setCell, World.size_drew, World.size_drewN'] at hs)
      have kx_0 := fun x : Over W => ((cellAt x.lies (w.heap.size) (by omega) 0).trans (cellAt hW (w.heap.size) (by first | omega | go_size) 0)).trans k_C_5_0
      have kx_1 := fun x : Over W => ((cellAt x.lies (w.heap.size) (by omega) 1).trans (cellAt hW (w.heap.size) (by first | omega | go_size) 1)).trans k_C_5_1
      clear hW hp
      refine ⟨rfl, ?_⟩
      go_big_quiet_op
      first | exact rfl
    · exact locS_const _
    try simp only [Act.put, List.setIfInBounds_toArray, List.set_cons_succ, List.set_cons_zero, Nat.reduceAdd]
    apply wpS_quiet
    · intro γ W hW hp
      refine ⟨rfl, ?_⟩
      go_big_quiet_op
      first | exact rfl
    · exact locS_const _
    try simp only [Act.put, List.setIfInBounds_toArray, List.set_cons_succ, List.set_cons_zero, Nat.reduceAdd]
    apply wpS_open (openW w.heap.size p3)
    · intro γ W hW hp
      have hp_4 := hp _ (List.mem_append_right _ (List.mem_singleton.2 rfl)) (by kernel_rfl)
      dsimp only at hp_4
      refine ⟨rfl, ?_⟩
      go_simp
      refine plainNew rfl ?_
      obtain ⟨b3, a3, n3, c3, e3, h3, _⟩ := hp_4
      rw [e3]
      exact open_W (bgTimes_eq h3 P3.out (by omega) (by omega)) (by (have := hW.size; (try simp only [World.size_alloc, World.size_setCell, World.size_drew, World.size_drewN'] at this); omega))
    try simp only [Act.put, List.setIfInBounds_toArray, List.set_cons_succ, List.set_cons_zero, Nat.reduceAdd]
    apply wpS_open (openW w.heap.size p4)
    · intro γ W hW hp
      have hp_1 := hp _ (List.mem_append_left _ (List.mem_append_left _ (List.mem_append_right _ (List.mem_singleton.2 rfl)))) (by kernel_rfl)
      dsimp only at hp_1
      have hp_8 := hp _ (List.mem_append_right _ (List.mem_singleton.2 rfl)) (by kernel_rfl)
      dsimp only at hp_8
      refine ⟨rfl, ?_⟩
      go_simp
      refine plainNew rfl ?_
      obtain ⟨b3, a3, n3, c3, e3, h3, _⟩ := hp_1
      obtain ⟨b4, a4, n4, c4, e4, h4, _⟩ := hp_8
      rw [e3, e4]
      exact open_W (bgSub_eq h3 h4 P4.out (by omega) (by omega)) (by (have := hW.size; (try simp only [World.size_alloc, World.size_setCell, World.size_drew, World.size_drewN'] at this); omega))
    try simp only [Act.put, List.setIfInBounds_toArray, List.set_cons_succ, List.set_cons_zero, Nat.reduceAdd]
    apply wpS_open (newBox _ _ _)
    · intro γ W hW hp
      refine ⟨rfl, ?_⟩
      go_simp
      exact ⟨⟨⟨_, rfl, hW.size, heap_alloc_new _ _⟩, fun _ => ⟨_, rfl, Nat.le_refl _, by simp⟩⟩, (Below.refl _ _).alloc (Nat.le_refl _) _⟩
    try simp only [Act.put, List.setIfInBounds_toArray, List.set_cons_succ, List.set_cons_zero, Nat.reduceAdd]
    apply wpS_end
    intro γ w6 hb6 hG6 hA6
    have hg6_1 := hG6 _ (List.mem_append_left _ (List.mem_append_left _ (List.mem_append_left _ (List.mem_append_left _ (List.mem_append_right _ (List.mem_singleton.2 rfl))))))
    dsimp only at hg6_1
    have hg6_4 := hG6 _ (List.mem_append_left _ (List.mem_append_left _ (List.mem_append_left _ (List.mem_append_right _ (List.mem_singleton.2 rfl)))))
    dsimp only at hg6_4
    have hg6_8 := hG6 _ (List.mem_append_left _ (List.mem_append_left _ (List.mem_append_right _ (List.mem_singleton.2 rfl))))
    dsimp only at hg6_8
    have hg6_9 := hG6 _ (List.mem_append_left _ (List.mem_append_right _ (List.mem_singleton.2 rfl)))
    dsimp only at hg6_9
    obtain ⟨g6_10, e6_10, l6_10, k6_10⟩ := hG6 _ (List.mem_append_right _ (List.mem_singleton.2 rfl))
    dsimp only at e6_10 l6_10 k6_10
    have kb6_10 := fun o => blk_cell k6_10 o
    have fb6_10 := fun o => blk_frozen k6_10 o
    have lb6_10 := blk_lt' k6_10
    have ne6_10_C : w.heap.size ≠ g6_10 := Nat.ne_of_lt (Nat.lt_of_lt_of_le l_C_5 l6_10)
    have ne6_10_O : w.heap.size + 1 + 1 ≠ g6_10 := Nat.ne_of_lt (Nat.lt_of_lt_of_le l_O_5 l6_10)
    have ne6_10_X : gx ≠ g6_10 := Nat.ne_of_lt (Nat.lt_of_lt_of_le l_X_5 l6_10)
    have ne6_10_Z : gz ≠ g6_10 := Nat.ne_of_lt (Nat.lt_of_lt_of_le l_Z_5 l6_10)
    have ne6_10_S : g4_4 ≠ g6_10 := Nat.ne_of_lt (Nat.lt_of_lt_of_le l_S_5 l6_10)
    have ne6_10_T : g4_5 ≠ g6_10 := Nat.ne_of_lt (Nat.lt_of_lt_of_le l_T_5 l6_10)
    have lw6_10 : w.heap.size ≤ g6_10 := Nat.le_trans hB5.size l6_10
    clear hG6 hA6
    try simp only [e6_10]
    clear e6_10
    simp only [List.drop_succ_cons, List.drop_zero]
    have hz6 := hb6.size
    (try simp only [World.size_alloc, World.size_setCell, World.size_drew, World.size_drewN'] at hz6)
    obtain ⟨b5, a5, n5, c5, e5, hu, -⟩ := hg6_9
    simp only [e5]
    clear e5 hg6_1 hg6_4 hg6_8
    have H_C_6 := (hb6.block (w.heap.size) (blk_lt' H_C_5.out)).trans H_C_5.out
    clear k_C_5_0 k_C_5_1 f_C_5 H_C_5
    obtain ⟨k_C_6_0, k_C_6_1, f_C_6, l_C_6⟩ := bk2 H_C_6
    replace H_C_6 := Lib.hid H_C_6
    have H_O_6 := (hb6.block (w.heap.size + 1 + 1) (blk_lt' H_O_5.out)).trans H_O_5.out
    clear k_O_5_0 k_O_5_1 f_O_5 H_O_5
    obtain ⟨k_O_6_0, k_O_6_1, f_O_6, l_O_6⟩ := bk2 H_O_6
    replace H_O_6 := Lib.hid H_O_6
    have H_X_6 := (hb6.block (gx) (blk_lt' H_X_5.out)).trans H_X_5.out
    clear k_X_5_0 k_X_5_1 f_X_5 H_X_5
    obtain ⟨k_X_6_0, k_X_6_1, f_X_6, l_X_6⟩ := bk2 H_X_6
    replace H_X_6 := Lib.hid H_X_6
    have H_Z_6 := (hb6.block (gz) (blk_lt' H_Z_5.out)).trans H_Z_5.out
    clear k_Z_5_0 k_Z_5_1 f_Z_5 H_Z_5
    obtain ⟨k_Z_6_0, k_Z_6_1, f_Z_6, l_Z_6⟩ := bk2 H_Z_6
    replace H_Z_6 := Lib.hid H_Z_6
    have H_S_6 := (hb6.block (g4_4) (blk_lt' H_S_5.out)).trans H_S_5.out
    clear k_S_5_0 k_S_5_1 f_S_5 H_S_5
    obtain ⟨k_S_6_0, k_S_6_1, f_S_6, l_S_6⟩ := bk2 H_S_6
    replace H_S_6 := Lib.hid H_S_6
    have H_T_6 := (hb6.block (g4_5) (blk_lt' H_T_5.out)).trans H_T_5.out
    clear k_T_5_0 k_T_5_1 f_T_5 H_T_5
    obtain ⟨k_T_6_0, k_T_6_1, f_T_6, l_T_6⟩ := bk2 H_T_6
    replace H_T_6 := Lib.hid H_T_6
    replace hx := hx.below hb6
    replace hz := hz.below hb6
    replace hs := hs.below hb6
    replace ht := ht.below hb6
    have hB6 : Below w.heap.size w w6 := below_via hb6 (by assumption) (by first | exact hB5.size | go_size)
    go_wp2_with fail
    replace H_C_6 := H_C_6.out
    replace H_O_6 := H_O_6.out
    replace H_X_6 := H_X_6.out
    replace H_Z_6 := H_Z_6.out
    replace H_S_6 := H_S_6.out
    replace H_T_6 := H_T_6.out
    refine chk (fun W => Below w.heap.size w W ∧ W.heap[w.heap.size]? = some (.cells #[.int .i64 A, .int .i64 B] 33 (0, 0)) ∧ W.heap[w.heap.size + 1 + 1]? = some (.cells #[.bool false, .slice none 0 0] 35 (0, 0)) ∧ W.heap[gx]? = some (.cells #[.bool b, .slice a n c] 35 (0, 0)) ∧ W.heap[gz]? = some (.cells #[.bool b2, .slice a2 n2 c2] 35 (0, 0)) ∧ W.heap[g4_5]? = some (.cells #[.bool b4, .slice a4 n4 c4] 35 (0, 0)) ∧ W.heap[g6_10]? = some (.cells #[.bool b5, .slice a5 n5 c5] 35 (0, 0)) ∧ Wx W b a n c x ∧ Wx W b2 a2 n2 c2 z ∧ Wx W b4 a4 n4 c4 z2 ∧ Wx W b5 a5 n5 c5 p4) (by refine ⟨?_, ?_, ?_, ?_, ?_, ?_, ?_, ?_, ?_, ?_, ?_⟩ <;> (repeat' first | (with_reducible first | assumption | (apply Ne.symm; assumption) | apply Nat.le_refl | apply Nat.le_add_right | apply zL | apply zRf | apply Wx.box | apply Wx.box4 | apply zWa | apply Wx.drew | apply zWn | apply bx_drew | apply bx_drewN | apply bx_set3 | apply bx_set2 | apply bx_set4 | apply bx_set1) | ((with_reducible apply bx_new); (focus (go_size; done))) | (with_reducible first | apply zOl | apply zFa | apply zDn | apply zDr | apply zAl | apply zSt | refine zVi (by assumption) ?_ ?_) | go_size | omega)) ?_
    try clear hx
    try clear hz
    try clear ht
    try clear hu
    clear k_C_6_0 k_C_6_1 f_C_6 H_C_6
    clear k_O_6_0 k_O_6_1 f_O_6 H_O_6
    clear k_X_6_0 k_X_6_1 f_X_6 H_X_6
    clear k_Z_6_0 k_Z_6_1 f_Z_6 H_Z_6
    clear k_S_6_0 k_S_6_1 f_S_6 H_S_6
    clear k_T_6_0 k_T_6_1 f_T_6 H_T_6
    clear hB6
    try clear kb6_10
    try clear fb6_10
    try clear k6_10
    rintro w7 ⟨hB7, H_C_7, H_O_7, H_X_7, H_Z_7, H_T_7, H_U_7, hx', hz', ht', hu'⟩
    obtain ⟨k_C_7_0, k_C_7_1, f_C_7, l_C_7⟩ := bk2 H_C_7
    replace H_C_7 := Lib.hid H_C_7
    obtain ⟨k_O_7_0, k_O_7_1, f_O_7, l_O_7⟩ := bk2 H_O_7
    replace H_O_7 := Lib.hid H_O_7
    obtain ⟨k_X_7_0, k_X_7_1, f_X_7, l_X_7⟩ := bk2 H_X_7
    replace H_X_7 := Lib.hid H_X_7
    obtain ⟨k_Z_7_0, k_Z_7_1, f_Z_7, l_Z_7⟩ := bk2 H_Z_7
    replace H_Z_7 := Lib.hid H_Z_7
    obtain ⟨k_T_7_0, k_T_7_1, f_T_7, l_T_7⟩ := bk2 H_T_7
    replace H_T_7 := Lib.hid H_T_7
    obtain ⟨k_U_7_0, k_U_7_1, f_U_7, l_U_7⟩ := bk2 H_U_7
    replace H_U_7 := Lib.hid H_U_7
    have hx := hx'
    clear hx'
    have hz := hz'
    clear hz'
    have ht := ht'
    clear ht'
    have hu := hu'
    clear hu'
    refine wp_open (n := 11) (by kernel_rfl) (by kernel_rfl) (by kernel_rfl) (by kernel_rfl) ?_
    simp only [List.take_succ_cons, List.take_zero]
    apply wpS_quiet
    · intro γ W hW hp
      have hs := hW.size
      (try simp only [World.size_alloc, World.size_setCell, World.size_drew, World.size_drewN'] at hs)
      have kx_0 := fun x : Over W => ((cellAt x.lies (g6_10) (by omega) 0).trans (cellAt hW (g6_10) (by first | omega | go_size) 0)).trans k_U_7_0
      have kx_1 := fun x : Over W => ((cellAt x.lies (g6_10) (by omega) 1).trans (cellAt hW (g6_10) (by first | omega | go_size) 1)).trans k_U_7_1
      clear hW hp
      refine ⟨rfl, ?_⟩
      go_big_quiet_op
      first | exact rfl
    · exact locS_const _
    try simp only [Act.put, List.setIfInBounds_toArray, List.set_cons_succ, List.set_cons_zero, Nat.reduceAdd]
    apply wpS_quiet
    · intro γ W hW hp
      have hs := hW.size
      (try simp only [World.size_alloc, World.size_setCell, World.size_drew, World.size_drewN'] at hs)
      have kx_0 := fun x : Over W => ((cellAt x.lies (gx) (by omega) 0).trans (cellAt hW (gx) (by first | omega | go_size) 0)).trans k_X_7_0
      have kx_1 := fun x : Over W => ((cellAt x.lies (gx) (by omega) 1).trans (cellAt hW (gx) (by first | omega | go_size) 1)).trans k_X_7_1
      clear hW hp
      refine ⟨rfl, ?_⟩
      go_big_quiet_op
      first | exact rfl
    · exact locS_const _
    try simp only [Act.put, List.setIfInBounds_toArray, List.set_cons_succ, List.set_cons_zero, Nat.reduceAdd]
    apply wpS_quiet
    · intro γ W hW hp
      have hs := hW.size
      (try simp only [World.size_alloc, World.size_setCell, World.size_drew, World.size_drewN'] at hs)
      have kx_0 := fun x : Over W => ((cellAt x.lies (gz) (by omega) 0).trans (cellAt hW (gz) (by first | omega | go_size) 0)).trans k_Z_7_0
      have kx_1 := fun x : Over W => ((cellAt x.lies (gz) (by omega) 1).trans (cellAt hW (gz) (by first | omega | go_size) 1)).trans k_Z_7_1
      clear hW hp
      refine ⟨rfl, ?_⟩
      go_big_quiet_op
      first | exact rfl
    · exact locS_const _
    try simp only [Act.put, List.setIfInBounds_toArray, List.set_cons_succ, List.set_cons_zero, Nat.reduceAdd]
    apply wpS_open (openW w.heap.size q1)
    · intro γ W hW hp
      refine ⟨rfl, ?_⟩
      go_simp
      refine plainNew rfl ?_
      exact open_W (bgMul_eq (hx.below hW) (hz.below hW) Q1.out (by omega) (by omega)) (by (have := hW.size; (try simp only [World.size_alloc, World.size_setCell, World.size_drew, World.size_drewN'] at this); omega))
    try simp only [Act.put, List.setIfInBounds_toArray, List.set_cons_succ, List.set_cons_zero, Nat.reduceAdd]
    apply wpS_quiet
    · intro γ W hW hp
      have hs := hW.size
      (try simp only [World.size_alloc, World.size_setCell, World.size_drew, World.size_drewN'] at hs)
      have kx_0 := fun x : Over W => ((cellAt x.lies (g4_5) (by omega) 0).trans (cellAt hW (g4_5) (by first | omega | go_size) 0)).trans k_T_7_0
      have kx_1 := fun x : Over W => ((cellAt x.lies (g4_5) (by omega) 1).trans (cellAt hW (g4_5) (by first | omega | go_size) 1)).trans k_T_7_1
      clear hW hp
      refine ⟨rfl, ?_⟩
      go_big_quiet_op
      first | exact rfl
    · exact locS_const _
    try simp only [Act.put, List.setIfInBounds_toArray, List.set_cons_succ, List.set_cons_zero, Nat.reduceAdd]
    apply wpS_open (openW w.heap.size q2)
    · intro γ W hW hp
      have hp_3 := hp _ (List.mem_append_right _ (List.mem_singleton.2 rfl)) (by kernel_rfl)
      dsimp only at hp_3
      refine ⟨rfl, ?_⟩
      go_simp
      refine plainNew rfl ?_
      obtain ⟨b3, a3, n3, c3, e3, h3, _⟩ := hp_3
      rw [e3]
      exact open_W (bgMul_eq h3 (ht.below hW) Q2.out (by omega) (by omega)) (by (have := hW.size; (try simp only [World.size_alloc, World.size_setCell, World.size_drew, World.size_drewN'] at this); omega))
    try simp only [Act.put, List.setIfInBounds_toArray, List.set_cons_succ, List.set_cons_zero, Nat.reduceAdd]
    apply wpS_quiet
    · intro γ W hW hp
      refine ⟨rfl, ?_⟩
      go_big_quiet_op
      first | exact rfl
    · exact locS_const _
    try simp only [Act.put, List.setIfInBounds_toArray, List.set_cons_succ, List.set_cons_zero, Nat.reduceAdd]
    apply wpS_quiet
    · intro γ W hW hp
      have hs := hW.size
      (try simp only [World.size_alloc, World.size_setCell, World.size_drew, World.size_drewN'] at hs)
      have kx_0 := fun x : Over W => ((cellAt x.lies (w.heap.size) (by omega) 0).trans (cellAt hW (w.heap.size) (by first | omega | go_size) 0)).trans k_C_7_0
      have kx_1 := fun x : Over W => ((cellAt x.lies (w.heap.size) (by omega) 1).trans (cellAt hW (w.heap.size) (by first | omega | go_size) 1)).trans k_C_7_1
      clear hW hp
      refine ⟨rfl, ?_⟩
      go_big_quiet_op
      first | exact rfl
    · exact locS_const _
    try simp only [Act.put, List.setIfInBounds_toArray, List.set_cons_succ, List.set_cons_zero, Nat.reduceAdd]
    apply wpS_quiet
    · intro γ W hW hp
      refine ⟨rfl, ?_⟩
      go_big_quiet_op
      first | exact rfl
    · exact locS_const _
    try simp only [Act.put, List.setIfInBounds_toArray, List.set_cons_succ, List.set_cons_zero, Nat.reduceAdd]
    apply wpS_open (openW w.heap.size q3)
    · intro γ W hW hp
      have hp_5 := hp _ (List.mem_append_right _ (List.mem_singleton.2 rfl)) (by kernel_rfl)
      dsimp only at hp_5
      refine ⟨rfl, ?_⟩
      go_simp
      refine plainNew rfl ?_
      obtain ⟨b3, a3, n3, c3, e3, h3, _⟩ := hp_5
      rw [e3]
      exact open_W (bgTimes_eq h3 Q3.out (by omega) (by omega)) (by (have := hW.size; (try simp only [World.size_alloc, World.size_setCell, World.size_drew, World.size_drewN'] at this); omega))
    try simp only [Act.put, List.setIfInBounds_toArray, List.set_cons_succ, List.set_cons_zero, Nat.reduceAdd]
    apply wpS_open (openW w.heap.size q4)
    · intro γ W hW hp
      have hp_9 := hp _ (List.mem_append_right _ (List.mem_singleton.2 rfl)) (by kernel_rfl)
      dsimp only at hp_9
      refine ⟨rfl, ?_⟩
      go_simp
      refine plainNew rfl ?_
      obtain ⟨b3, a3, n3, c3, e3, h3, _⟩ := hp_9
      rw [e3]
      exact open_W (bgSub_eq (hu.below hW) h3 Q4.out (by omega) (by omega)) (by (have := hW.size; (try simp only [World.size_alloc, World.size_setCell, World.size_drew, World.size_drewN'] at this); omega))
    try simp only [Act.put, List.setIfInBounds_toArray, List.set_cons_succ, List.set_cons_zero, Nat.reduceAdd]
    apply wpS_end
    intro γ w8 hb8 hG8 hA8
    have hg8_3 := hG8 _ (List.mem_append_left _ (List.mem_append_left _ (List.mem_append_left _ (List.mem_append_right _ (List.mem_singleton.2 rfl)))))
    dsimp only at hg8_3
    have hg8_5 := hG8 _ (List.mem_append_left _ (List.mem_append_left _ (List.mem_append_right _ (List.mem_singleton.2 rfl))))
    dsimp only at hg8_5
    have hg8_9 := hG8 _ (List.mem_append_left _ (List.mem_append_right _ (List.mem_singleton.2 rfl)))
    dsimp only at hg8_9
    have hg8_10 := hG8 _ (List.mem_append_right _ (List.mem_singleton.2 rfl))
    dsimp only at hg8_10
    clear hG8 hA8
    simp only [List.drop_succ_cons, List.drop_zero]
    have hz8 := hb8.size
    (try simp only [World.size_alloc, World.size_setCell, World.size_drew, World.size_drewN'] at hz8)
    obtain ⟨b6, a6, n6, c6, e6, hv, -⟩ := hg8_10
    simp only [e6]
    clear e6 hg8_3 hg8_5 hg8_9
    have H_C_8 := (hb8.block (w.heap.size) (blk_lt' H_C_7.out)).trans H_C_7.out
    clear k_C_7_0 k_C_7_1 f_C_7 H_C_7
    obtain ⟨k_C_8_0, k_C_8_1, f_C_8, l_C_8⟩ := bk2 H_C_8
    replace H_C_8 := Lib.hid H_C_8
    have H_O_8 := (hb8.block (w.heap.size + 1 + 1) (blk_lt' H_O_7.out)).trans H_O_7.out
    clear k_O_7_0 k_O_7_1 f_O_7 H_O_7
    obtain ⟨k_O_8_0, k_O_8_1, f_O_8, l_O_8⟩ := bk2 H_O_8
    replace H_O_8 := Lib.hid H_O_8
    have H_X_8 := (hb8.block (gx) (blk_lt' H_X_7.out)).trans H_X_7.out
    clear k_X_7_0 k_X_7_1 f_X_7 H_X_7
    obtain ⟨k_X_8_0, k_X_8_1, f_X_8, l_X_8⟩ := bk2 H_X_8
    replace H_X_8 := Lib.hid H_X_8
    have H_Z_8 := (hb8.block (gz) (blk_lt' H_Z_7.out)).trans H_Z_7.out
    clear k_Z_7_0 k_Z_7_1 f_Z_7 H_Z_7
    obtain ⟨k_Z_8_0, k_Z_8_1, f_Z_8, l_Z_8⟩ := bk2 H_Z_8
    replace H_Z_8 := Lib.hid H_Z_8
    have H_T_8 := (hb8.block (g4_5) (blk_lt' H_T_7.out)).trans H_T_7.out
    clear k_T_7_0 k_T_7_1 f_T_7 H_T_7
    obtain ⟨k_T_8_0, k_T_8_1, f_T_8, l_T_8⟩ := bk2 H_T_8
    replace H_T_8 := Lib.hid H_T_8
    have H_U_8 := (hb8.block (g6_10) (blk_lt' H_U_7.out)).trans H_U_7.out
    clear k_U_7_0 k_U_7_1 f_U_7 H_U_7
    obtain ⟨k_U_8_0, k_U_8_1, f_U_8, l_U_8⟩ := bk2 H_U_8
    replace H_U_8 := Lib.hid H_U_8
    replace hx := hx.below hb8
    replace hz := hz.below hb8
    replace ht := ht.below hb8
    replace hu := hu.below hb8
    have hB8 : Below w.heap.size w w8 := below_via hb8 (by assumption) (by first | exact hB7.size | go_size)
    go_wp2_with fail
    replace H_C_8 := H_C_8.out
    replace H_O_8 := H_O_8.out
    replace H_X_8 := H_X_8.out
    replace H_Z_8 := H_Z_8.out
    replace H_T_8 := H_T_8.out
    replace H_U_8 := H_U_8.out
    refine chk (fun W => Below w.heap.size w W ∧ W.heap[w.heap.size]? = some (.cells #[.int .i64 A, .int .i64 B] 33 (0, 0)) ∧ W.heap[w.heap.size + 1 + 1]? = some (.cells #[.bool false, .slice none 0 0] 35 (0, 0)) ∧ W.heap[g4_5]? = some (.cells #[.bool b4, .slice a4 n4 c4] 35 (0, 0)) ∧ W.heap[g6_10]? = some (.cells #[.bool b6, .slice a6 n6 c6] 35 (0, 0)) ∧ Wx W b4 a4 n4 c4 z2 ∧ Wx W b6 a6 n6 c6 q4) (by refine ⟨?_, ?_, ?_, ?_, ?_, ?_, ?_⟩ <;> (repeat' first | (with_reducible first | assumption | (apply Ne.symm; assumption) | apply Nat.le_refl | apply Nat.le_add_right | apply zL | apply zRf | apply Wx.box | apply Wx.box4 | apply zWa | apply Wx.drew | apply zWn | apply bx_drew | apply bx_drewN | apply bx_set3 | apply bx_set2 | apply bx_set4 | apply bx_set1) | ((with_reducible apply bx_new); (focus (go_size; done))) | (with_reducible first | apply zOl | apply zFa | apply zDn | apply zDr | apply zAl | apply zSt | refine zVi (by assumption) ?_ ?_) | go_size | omega)) ?_
    try clear ht
    try clear hv
    clear k_C_8_0 k_C_8_1 f_C_8 H_C_8
    clear k_O_8_0 k_O_8_1 f_O_8 H_O_8
    clear k_X_8_0 k_X_8_1 f_X_8 H_X_8
    clear k_Z_8_0 k_Z_8_1 f_Z_8 H_Z_8
    clear k_T_8_0 k_T_8_1 f_T_8 H_T_8
    clear k_U_8_0 k_U_8_1 f_U_8 H_U_8
    clear hB8
    rintro w9 ⟨hB9, H_C_9, H_O_9, H_T_9, H_U_9, ht', hv'⟩
    obtain ⟨k_C_9_0, k_C_9_1, f_C_9, l_C_9⟩ := bk2 H_C_9
    replace H_C_9 := Lib.hid H_C_9
    obtain ⟨k_O_9_0, k_O_9_1, f_O_9, l_O_9⟩ := bk2 H_O_9
    replace H_O_9 := Lib.hid H_O_9
    obtain ⟨k_T_9_0, k_T_9_1, f_T_9, l_T_9⟩ := bk2 H_T_9
    replace H_T_9 := Lib.hid H_T_9
    obtain ⟨k_U_9_0, k_U_9_1, f_U_9, l_U_9⟩ := bk2 H_U_9
    replace H_U_9 := Lib.hid H_U_9
    have ht := ht'
    clear ht'
    have hv := hv'
    clear hv'
    refine wp_open (n := 10) (by kernel_rfl) (by kernel_rfl) (by kernel_rfl) (by kernel_rfl) ?_
    simp only [List.take_succ_cons, List.take_zero]
    apply wpS_quiet
    · intro γ W hW hp
      have hs := hW.size
      (try simp only [World.size_alloc, World.size_setCell, World.size_drew, World.size_drewN'] at hs)
      have kx_0 := fun x : Over W => ((cellAt x.lies (g6_10) (by omega) 0).trans (cellAt hW (g6_10) (by first | omega | go_size) 0)).trans k_U_9_0
      have kx_1 := fun x : Over W => ((cellAt x.lies (g6_10) (by omega) 1).trans (cellAt hW (g6_10) (by first | omega | go_size) 1)).trans k_U_9_1
      clear hW hp
      refine ⟨rfl, ?_⟩
      go_big_quiet_op
      first | exact rfl
    · exact locS_const _
    try simp only [Act.put, List.setIfInBounds_toArray, List.set_cons_succ, List.set_cons_zero, Nat.reduceAdd]
    apply wpS_quiet
    · intro γ W hW hp
      have hs := hW.size
      (try simp only [World.size_alloc, World.size_setCell, World.size_drew, World.size_drewN'] at hs)
      have kx_0 := fun x : Over W => ((cellAt x.lies (g4_5) (by omega) 0).trans (cellAt hW (g4_5) (by first | omega | go_size) 0)).trans k_T_9_0
      have kx_1 := fun x : Over W => ((cellAt x.lies (g4_5) (by omega) 1).trans (cellAt hW (g4_5) (by first | omega | go_size) 1)).trans k_T_9_1
      clear hW hp
      refine ⟨rfl, ?_⟩
      go_big_quiet_op
      first | exact rfl
    · exact locS_const _
    try simp only [Act.put, List.setIfInBounds_toArray, List.set_cons_succ, List.set_cons_zero, Nat.reduceAdd]
    apply wpS_open (openW w.heap.size r1)
    · intro γ W hW hp
      refine ⟨rfl, ?_⟩
      go_simp
      refine plainNew rfl ?_
      exact open_W (xdSquare_eq (ht.below hW) R1.out (by omega)) (by (have := hW.size; (try simp only [World.size_alloc, World.size_setCell, World.size_drew, World.size_drewN'] at this); omega))
    try simp only [Act.put, List.setIfInBounds_toArray, List.set_cons_succ, List.set_cons_zero, Nat.reduceAdd]
    apply wpS_quiet
    · intro γ W hW hp
      refine ⟨rfl, ?_⟩
      go_big_quiet_op
      first | exact rfl
    · exact locS_const _
    try simp only [Act.put, List.setIfInBounds_toArray, List.set_cons_succ, List.set_cons_zero, Nat.reduceAdd]
    apply wpS_quiet
    · intro γ W hW hp
      have hs := hW.size
      (try simp only [World.size_alloc, World.size_setCell, World.size_drew, World.size_drewN'] at hs)
      have kx_0 := fun x : Over W => ((cellAt x.lies (w.heap.size) (by omega) 0).trans (cellAt hW (w.heap.size) (by first | omega | go_size) 0)).trans k_C_9_0
      have kx_1 := fun x : Over W => ((cellAt x.lies (w.heap.size) (by omega) 1).trans (cellAt hW (w.heap.size) (by first | omega | go_size) 1)).trans k_C_9_1
      clear hW hp
      refine ⟨rfl, ?_⟩
      go_big_quiet_op
      first | exact rfl
    · exact locS_const _
    try simp only [Act.put, List.setIfInBounds_toArray, List.set_cons_succ, List.set_cons_zero, Nat.reduceAdd]
    apply wpS_quiet
    · intro γ W hW hp
      refine ⟨rfl, ?_⟩
      go_big_quiet_op
      first | exact rfl
    · exact locS_const _
    try simp only [Act.put, List.setIfInBounds_toArray, List.set_cons_succ, List.set_cons_zero, Nat.reduceAdd]
    apply wpS_quiet
    · intro γ W hW hp
      have hs := hW.size
      (try simp only [World.size_alloc, World.size_setCell, World.size_drew, World.size_drewN'] at hs)
      have kx_0 := fun x : Over W => ((cellAt x.lies (w.heap.size) (by omega) 0).trans (cellAt hW (w.heap.size) (by first | omega | go_size) 0)).trans k_C_9_0
      have kx_1 := fun x : Over W => ((cellAt x.lies (w.heap.size) (by omega) 1).trans (cellAt hW (w.heap.size) (by first | omega | go_size) 1)).trans k_C_9_1
      clear hW hp
      refine ⟨rfl, ?_⟩
      go_big_quiet_op
      first | exact rfl
    · exact locS_const _
    try simp only [Act.put, List.setIfInBounds_toArray, List.set_cons_succ, List.set_cons_zero, Nat.reduceAdd]
    apply wpS_quiet
    · intro γ W hW hp
      refine ⟨rfl, ?_⟩
      go_big_quiet_op
      first | exact rfl
    · exact locS_const _
    try simp only [Act.put, List.setIfInBounds_toArray, List.set_cons_succ, List.set_cons_zero, Nat.reduceAdd]
    apply wpS_open (openW w.heap.size r2)
    · intro γ W hW hp
      have hp_2 := hp _ (List.mem_append_right _ (List.mem_singleton.2 rfl)) (by kernel_rfl)
      dsimp only at hp_2
      refine ⟨rfl, ?_⟩
      go_simp
      refine plainNew rfl ?_
      obtain ⟨b3, a3, n3, c3, e3, h3, _⟩ := hp_2
      rw [e3]
      exact open_W (bgTimes_eq h3 R2.out (by omega) (by omega)) (by (have := hW.size; (try simp only [World.size_alloc, World.size_setCell, World.size_drew, World.size_drewN'] at this); omega))
    try simp only [Act.put, List.setIfInBounds_toArray, List.set_cons_succ, List.set_cons_zero, Nat.reduceAdd]
    apply wpS_open (openW w.heap.size t)
    · intro γ W hW hp
      have hp_8 := hp _ (List.mem_append_right _ (List.mem_singleton.2 rfl)) (by kernel_rfl)
      dsimp only at hp_8
      refine ⟨rfl, ?_⟩
      go_simp
      refine plainNew rfl ?_
      obtain ⟨b3, a3, n3, c3, e3, h3, _⟩ := hp_8
      rw [e3]
      exact open_W (bgAdd_eq (hv.below hW) h3 RT.out (by omega) (by omega)) (by (have := hW.size; (try simp only [World.size_alloc, World.size_setCell, World.size_drew, World.size_drewN'] at this); omega))
    try simp only [Act.put, List.setIfInBounds_toArray, List.set_cons_succ, List.set_cons_zero, Nat.reduceAdd]
    apply wpS_end
    intro γ w10 hb10 hG10 hA10
    have hg10_2 := hG10 _ (List.mem_append_left _ (List.mem_append_left _ (List.mem_append_right _ (List.mem_singleton.2 rfl))))
    dsimp only at hg10_2
    have hg10_8 := hG10 _ (List.mem_append_left _ (List.mem_append_right _ (List.mem_singleton.2 rfl)))
    dsimp only at hg10_8
    have hg10_9 := hG10 _ (List.mem_append_right _ (List.mem_singleton.2 rfl))
    dsimp only at hg10_9
    clear hG10 hA10
    simp only [List.drop_succ_cons, List.drop_zero]
    have hz10 := hb10.size
    (try simp only [World.size_alloc, World.size_setCell, World.size_drew, World.size_drewN'] at hz10)
    obtain ⟨b7, a7, n7, c7, e7, h7, f7⟩ := hg10_9
    simp only [e7]
    clear e7 hg10_2 hg10_8
    have H_C_10 := (hb10.block (w.heap.size) (blk_lt' H_C_9.out)).trans H_C_9.out
    clear k_C_9_0 k_C_9_1 f_C_9 H_C_9
    obtain ⟨k_C_10_0, k_C_10_1, f_C_10, l_C_10⟩ := bk2 H_C_10
    replace H_C_10 := Lib.hid H_C_10
    have H_O_10 := (hb10.block (w.heap.size + 1 + 1) (blk_lt' H_O_9.out)).trans H_O_9.out
    clear k_O_9_0 k_O_9_1 f_O_9 H_O_9
    obtain ⟨k_O_10_0, k_O_10_1, f_O_10, l_O_10⟩ := bk2 H_O_10
    replace H_O_10 := Lib.hid H_O_10
    have H_T_10 := (hb10.block (g4_5) (blk_lt' H_T_9.out)).trans H_T_9.out
    clear k_T_9_0 k_T_9_1 f_T_9 H_T_9
    obtain ⟨k_T_10_0, k_T_10_1, f_T_10, l_T_10⟩ := bk2 H_T_10
    replace H_T_10 := Lib.hid H_T_10
    have H_U_10 := (hb10.block (g6_10) (blk_lt' H_U_9.out)).trans H_U_9.out
    clear k_U_9_0 k_U_9_1 f_U_9 H_U_9
    obtain ⟨k_U_10_0, k_U_10_1, f_U_10, l_U_10⟩ := bk2 H_U_10
    replace H_U_10 := Lib.hid H_U_10
    replace ht := ht.below hb10
    replace hv := hv.below hb10
    have hB10 : Below w.heap.size w w10 := below_via hb10 (by assumption) (by first | exact hB9.size | go_size)
    clear k_C_10_0
    clear k_C_10_1
    clear f_C_10 H_C_10
    clear k_T_10_0
    clear k_T_10_1
    clear f_T_10 H_T_10
    clear k_U_10_0
    clear k_U_10_1
    clear f_U_10 H_U_10
    try clear ne4_4_C
    try clear ne4_4_O
    try clear ne4_4_X
    try clear ne4_4_Z
    try clear ne4_5_C
    try clear ne4_5_O
    try clear ne4_5_X
    try clear ne4_5_Z
    try clear ne6_10_C
    try clear ne6_10_O
    try clear ne6_10_X
    try clear ne6_10_Z
    try clear ne6_10_S
    try clear ne6_10_T
    clear hA hBB hAA hx hz hs ht hu hv m1 m2 m3 m4 m5 m6 m7 m8 m9 m10 m11 m12
    iterate 24 (first | (with_reducible show bodyPost _ _ _ _ _ _) | (with_reducible refine wp_ret ?_) | go_values | go_skip | go_guarded | go_step | go_upon | go_back | skip)
    refine bodyPost_ret (v := .agg #[.bool b7, .slice a7 n7 c7]) (by simp [results, Try.results30, go_sem, k_O_10_0, k_O_10_1]) rfl ⟨_, _, _, _, rfl, ?_, f7, ?_⟩
    · have HO := H_O_10.out
      (repeat' first | (with_reducible first | assumption | (apply Ne.symm; assumption) | apply Nat.le_refl | apply Nat.le_add_right | apply zL | apply zRf | apply Wx.box | apply Wx.box4 | apply zWa | apply Wx.drew | apply zWn | apply bx_drew | apply bx_drewN | apply bx_set3 | apply bx_set2 | apply bx_set4 | apply bx_set1) | ((with_reducible apply bx_new); (focus (go_size; done))) | (with_reducible first | apply zOl | apply zFa | apply zDn | apply zDr | apply zAl | apply zSt | refine zVi (by assumption) ?_ ?_) | go_size | omega)
    · (repeat' first | (with_reducible first | assumption | (apply Ne.symm; assumption) | apply Nat.le_refl | apply Nat.le_add_right | apply zL | apply zRf | apply Wx.box | apply Wx.box4 | apply zWa | apply Wx.drew | apply zWn | apply bx_drew | apply bx_drewN | apply bx_set3 | apply bx_set2 | apply bx_set4 | apply bx_set1) | ((with_reducible apply bx_new); (focus (go_size; done))) | (with_reducible first | apply zOl | apply zFa | apply zDn | apply zDr | apply zAl | apply zSt | refine zVi (by assumption) ?_ ?_) | go_size | omega)
end Go.Proofs.Ytijpfnkhaldfeaa
