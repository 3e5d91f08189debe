/- The doubled ratio: the reference. -/
import Derived.Test.YtijpfnkhaldfeaaXd4
namespace Go.Proofs.Ytijpfnkhaldfeaa
open Go.RowKit
set_option linter.unusedVariables false
set_option maxHeartbeats 1000000
set_option maxRecDepth 20000
set_option linter.unusedSimpArgs false
attribute [local go_sem] openAt openUpon
/-- a contract whose values are a ratio and a flag -/
def NewRR (w : World) (x z : Int) (ok : Bool) (e : Ending) (w' : World) : Prop := ∃ b a n c b2 a2 n2 c2, e = .returned (.tuple #[.agg #[.bool b, .slice a n c, .bool b2, .slice a2 n2 c2], .bool ok]) ∧ Wx w' b a n c x ∧ Wx w' b2 a2 n2 c2 z ∧ Fr w.heap.size a ∧ Fr w.heap.size a2 ∧ Below w.heap.size w w'
/-- a contract whose values are a whole number and a rest -/
def NewQp (w : World) (p : Int) (e : Ending) (w' : World) : Prop := ∃ b a n c r, e = .returned (.tuple #[.agg #[.bool b, .slice a n c], .int .i64 r]) ∧ Wx w' b a n c p ∧ Fr w.heap.size a ∧ Below w.heap.size w w'
theorem NewQ.qp {w : World} {z d p : Int} {e : Ending} {w' : World} (h : NewQ w z d e w') (hp : z / d = p) : NewQp w p e w' := by
  obtain ⟨b, a, n, c, h1, h2, h3, h4⟩ := h
  exact ⟨b, a, n, c, _, h1, hp ▸ h2, h3, h4⟩
theorem fr_none (B : Nat) : Fr B none := fun A e => by cases e
theorem Wx.zero' (W : World) : Wx W false none 0 0 0 := ⟨by decide, by rw [show limbs (ab 0) = [] by decide]; exact Sx.none W⟩
theorem top_ln {A B x z : Int} (hA : -1000 ≤ A ∧ A ≤ 1000) (hBB : -10000 ≤ B ∧ B ≤ 10000) (lx' : ln x ≤ 80) (lz' : ln z ≤ 80) : ln (topZ A B x z) ≤ 8000 := by
  unfold topZ
  have a1 := ln_small (a := 2 * A) (by omega) (by omega)
  have a2 := ln_small (a := 8 * B) (by omega) (by omega)
  have hAA := mul_bd (a := A) (b := A) (A := 1000) (B := 1000) (by omega) (by omega)
  have a3 := ln_small (a := A * A) (by omega) (by omega)
  have xx := ln_mul_le lx' lx'
  have zz := ln_mul_le lz' lz'
  have xz := ln_mul_le lx' lz'
  have b1 : ln (x * x * (x * x)) ≤ 330 := Nat.le_trans (ln_mul_le xx xx) (by omega)
  have b2 : ln (x * x * (z * z) * (2 * A)) ≤ 330 := Nat.le_trans (ln_mul_le (ln_mul_le xx zz) a1) (by omega)
  have b3 : ln (x * z * (z * z) * (8 * B)) ≤ 331 := Nat.le_trans (ln_mul_le (ln_mul_le xz zz) a2) (by omega)
  have b4 : ln (z * z * (z * z) * (A * A)) ≤ 332 := Nat.le_trans (ln_mul_le (ln_mul_le zz zz) a3) (by omega)
  exact Nat.le_trans (ln_add_le (ln_sub_le (ln_sub_le b1 b2) b3) b4) (by omega)
theorem bot_ln {A B x z : Int} (hA : -1000 ≤ A ∧ A ≤ 1000) (hBB : -10000 ≤ B ∧ B ≤ 10000) (lx' : ln x ≤ 80) (lz' : ln z ≤ 80) : ln (botZ A B x z) ≤ 8000 := by
  unfold botZ
  have a1 := ln_small (a := A) (by omega) (by omega)
  have a2 := ln_small (a := B) (by omega) (by omega)
  have a4 := ln_small (a := 4) (by omega) (by omega)
  have zz := ln_mul_le lz' lz'
  have b1 : ln (x * x * x) ≤ 330 := Nat.le_trans (ln_mul_le (ln_mul_le lx' lx') lx') (by omega)
  have b2 : ln (x * (z * z) * A) ≤ 330 := Nat.le_trans (ln_mul_le (ln_mul_le lx' zz) a1) (by omega)
  have b3 : ln (z * (z * z) * B) ≤ 331 := Nat.le_trans (ln_mul_le (ln_mul_le lz' zz) a2) (by omega)
  exact Nat.le_trans (ln_mul_le (ln_mul_le lz' (ln_add_le (ln_add_le b1 b2) b3)) a4) (by omega)
theorem xdDouble_any (A B x z : Int) (b b2 : Bool) (a a2 : Option Addr) (n c n2 c2 : Nat) (w : World) (hA : -1000 ≤ A ∧ A ≤ 1000) (hBB : -10000 ≤ B ∧ B ≤ 10000) (hcv : coV A B ≠ 0) (hx : Wx w b a n c x) (hz : Wx w b2 a2 n2 c2 z) (lx : ln x ≤ 80) (lz : ln z ≤ 80) :
    Calls Try.prog 17 #[.agg #[.int .i64 A, .int .i64 B], .agg #[.bool b, .slice a n c, .bool b2, .slice a2 n2 c2]] w (NewRR w (dbl (4 * absI (coV A B)) A B x z).1 (dbl (4 * absI (coV A B)) A B x z).2.1 (dbl (4 * absI (coV A B)) A B x z).2.2) := by
  obtain ⟨t, ht0⟩ : ∃ v, topZ A B x z = v := ⟨_, rfl⟩
  obtain ⟨s, hs0⟩ : ∃ v, botZ A B x z = v := ⟨_, rfl⟩
  have TT : ∀ W, Wx W b a n c x → Wx W b2 a2 n2 c2 z → Calls Try.prog 30 #[.agg #[.int .i64 A, .int .i64 B], .agg #[.bool b, .slice a n c, .bool b2, .slice a2 n2 c2]] W (NewW W t) := fun W h1 h2 => ht0 ▸ xdTop_any A B x z b b2 a a2 n c n2 c2 W hA hBB h1 h2 lx lz
  have TS : ∀ W, Wx W b a n c x → Wx W b2 a2 n2 c2 z → Calls Try.prog 31 #[.agg #[.int .i64 A, .int .i64 B], .agg #[.bool b, .slice a n c, .bool b2, .slice a2 n2 c2]] W (NewW W s) := fun W h1 h2 => hs0 ▸ xdBottom_any A B x z b b2 a a2 n c n2 c2 W hA hBB h1 h2 lx lz
  have hlt : ln t ≤ 8000 := by rw [← ht0]; exact top_ln hA hBB lx lz
  have hls : ln s ≤ 8000 := by rw [← hs0]; exact bot_ln hA hBB lx lz
  have hN : 1 ≤ 4 * absI (coV A B) := by unfold absI; omega
  have hD : (s = 0 ∧ dbl (4 * absI (coV A B)) A B x z = (0, 0, false)) ∨ (s ≠ 0 ∧ (raB (dbN (4 * absI (coV A B)) t s) (dbD (4 * absI (coV A B)) t s) = true ∧ dbl (4 * absI (coV A B)) A B x z = (dbN (4 * absI (coV A B)) t s, dbD (4 * absI (coV A B)) t s, true) ∨ raB (dbN (4 * absI (coV A B)) t s) (dbD (4 * absI (coV A B)) t s) = false ∧ dbl (4 * absI (coV A B)) A B x z = (0, 0, false))) := by
    unfold dbl
    rw [ht0, hs0]
    by_cases h : s = 0
    · left; exact ⟨h, by rw [if_pos h]⟩
    · right
      refine ⟨h, ?_⟩
      rw [if_neg h]
      cases hr : raB (dbN (4 * absI (coV A B)) t s) (dbD (4 * absI (coV A B)) t s)
      · right; exact ⟨rfl, by simp⟩
      · left; exact ⟨rfl, by simp⟩
  clear ht0 hs0
  rcases hD with ⟨h0, hd⟩ | ⟨h0, hd⟩
  · rw [hd]
    have hs00 := ln_zero.2 h0
    clear hd
    have H0 := Lib.hid h0
    clear h0
    have tok1 : True := trivial
    have tok2 : True := trivial
    have tok3 : True := trivial
    have tok4 : True := trivial
    have tok5 : True := trivial
    have tok6 : True := trivial
    have tok7 : True := trivial
    have tok8 : True := trivial
    have tok9 : True := trivial
    go_enter Try.func17, Try.ntmps17
    go_wp2_with fail
    refine chk (fun W => Below w.heap.size w W ∧ W.heap[w.heap.size]? = some (.cells #[.int .i64 A, .int .i64 B] 33 (0, 0)) ∧ W.heap[w.heap.size + 1]? = some (.cells #[.bool b, .slice a n c, .bool b2, .slice a2 n2 c2] 37 (0, 0)) ∧ W.heap[w.heap.size + 1 + 1]? = some (.cells #[.bool false, .slice none 0 0, .bool false, .slice none 0 0] 37 (0, 0)) ∧ Wx W b a n c x ∧ Wx W b2 a2 n2 c2 z) (by refine ⟨?_, ?_, ?_, ?_, ?_, ?_⟩ <;> (repeat' first | (with_reducible first | assumption | (apply Ne.symm; assumption) | apply Nat.le_refl | apply Nat.le_add_right | apply zL | apply zRf | apply Wx.box | apply Wx.box4 | apply zWa | apply Wx.drew | apply zWn | apply bx_drew | apply bx_drewN | apply bx_set3 | apply bx_set2 | apply bx_set4 | apply bx_set1) | ((with_reducible apply bx_new); (focus (go_size; done))) | (with_reducible first | apply zOl | apply zFa | apply zDn | apply zDr | apply zAl | apply zSt | refine zVi (by assumption) ?_ ?_) | go_size | omega)) ?_
    try clear hx
    try clear hz
    rintro w1 ⟨hB1, H_C_1, H_R_1, H_O_1, hx', hz'⟩
    obtain ⟨k_C_1_0, k_C_1_1, f_C_1, l_C_1⟩ := bk2 H_C_1
    replace H_C_1 := Lib.hid H_C_1
    obtain ⟨k_R_1_0, k_R_1_1, k_R_1_2, k_R_1_3, f_R_1, l_R_1⟩ := bk4 H_R_1
    replace H_R_1 := Lib.hid H_R_1
    obtain ⟨k_O_1_0, k_O_1_1, k_O_1_2, k_O_1_3, f_O_1, l_O_1⟩ := bk4 H_O_1
    replace H_O_1 := Lib.hid H_O_1
    have hx := hx'
    clear hx'
    have hz := hz'
    clear hz'
    refine wp_open (n := 8) (by kernel_rfl) (by kernel_rfl) (by kernel_rfl) (by kernel_rfl) ?_
    simp only [List.take_succ_cons, List.take_zero]
    apply wpS_quiet
    · intro γ W hW hp
      have hs := hW.size
      (try simp only [World.size_alloc, World.size_setCell, World.size_drew, World.size_drewN'] at hs)
      have kx_0 := fun x : Over W => ((cellAt x.lies (w.heap.size) (by omega) 0).trans (cellAt hW (w.heap.size) (by first | omega | go_size) 0)).trans k_C_1_0
      have kx_1 := fun x : Over W => ((cellAt x.lies (w.heap.size) (by omega) 1).trans (cellAt hW (w.heap.size) (by first | omega | go_size) 1)).trans k_C_1_1
      clear hW hp
      refine ⟨rfl, ?_⟩
      go_big_quiet_op
      first | exact rfl
    · exact locS_const _
    try simp only [Act.put, List.setIfInBounds_toArray, List.set_cons_succ, List.set_cons_zero, Nat.reduceAdd]
    apply wpS_quiet
    · intro γ W hW hp
      have hs := hW.size
      (try simp only [World.size_alloc, World.size_setCell, World.size_drew, World.size_drewN'] at hs)
      have kx_0 := fun x : Over W => ((cellAt x.lies (w.heap.size + 1) (by omega) 0).trans (cellAt hW (w.heap.size + 1) (by first | omega | go_size) 0)).trans k_R_1_0
      have kx_1 := fun x : Over W => ((cellAt x.lies (w.heap.size + 1) (by omega) 1).trans (cellAt hW (w.heap.size + 1) (by first | omega | go_size) 1)).trans k_R_1_1
      have kx_2 := fun x : Over W => ((cellAt x.lies (w.heap.size + 1) (by omega) 2).trans (cellAt hW (w.heap.size + 1) (by first | omega | go_size) 2)).trans k_R_1_2
      have kx_3 := fun x : Over W => ((cellAt x.lies (w.heap.size + 1) (by omega) 3).trans (cellAt hW (w.heap.size + 1) (by first | omega | go_size) 3)).trans k_R_1_3
      clear hW hp
      refine ⟨rfl, ?_⟩
      go_big_quiet_op
      first | exact rfl
    · exact locS_const _
    try simp only [Act.put, List.setIfInBounds_toArray, List.set_cons_succ, List.set_cons_zero, Nat.reduceAdd]
    apply wpS_open (openW w.heap.size t)
    · intro γ W hW hp
      refine ⟨rfl, ?_⟩
      go_simp
      refine plainNew rfl ?_
      exact open_W (TT W (hx.below hW) (hz.below hW)) (by (have := hW.size; (try simp only [World.size_alloc, World.size_setCell, World.size_drew, World.size_drewN'] at this); omega))
    try simp only [Act.put, List.setIfInBounds_toArray, List.set_cons_succ, List.set_cons_zero, Nat.reduceAdd]
    apply wpS_quiet
    · intro γ W hW hp
      have hs := hW.size
      (try simp only [World.size_alloc, World.size_setCell, World.size_drew, World.size_drewN'] at hs)
      have kx_0 := fun x : Over W => ((cellAt x.lies (w.heap.size) (by omega) 0).trans (cellAt hW (w.heap.size) (by first | omega | go_size) 0)).trans k_C_1_0
      have kx_1 := fun x : Over W => ((cellAt x.lies (w.heap.size) (by omega) 1).trans (cellAt hW (w.heap.size) (by first | omega | go_size) 1)).trans k_C_1_1
      clear hW hp
      refine ⟨rfl, ?_⟩
      go_big_quiet_op
      first | exact rfl
    · exact locS_const _
    try simp only [Act.put, List.setIfInBounds_toArray, List.set_cons_succ, List.set_cons_zero, Nat.reduceAdd]
    apply wpS_quiet
    · intro γ W hW hp
      have hs := hW.size
      (try simp only [World.size_alloc, World.size_setCell, World.size_drew, World.size_drewN'] at hs)
      have kx_0 := fun x : Over W => ((cellAt x.lies (w.heap.size + 1) (by omega) 0).trans (cellAt hW (w.heap.size + 1) (by first | omega | go_size) 0)).trans k_R_1_0
      have kx_1 := fun x : Over W => ((cellAt x.lies (w.heap.size + 1) (by omega) 1).trans (cellAt hW (w.heap.size + 1) (by first | omega | go_size) 1)).trans k_R_1_1
      have kx_2 := fun x : Over W => ((cellAt x.lies (w.heap.size + 1) (by omega) 2).trans (cellAt hW (w.heap.size + 1) (by first | omega | go_size) 2)).trans k_R_1_2
      have kx_3 := fun x : Over W => ((cellAt x.lies (w.heap.size + 1) (by omega) 3).trans (cellAt hW (w.heap.size + 1) (by first | omega | go_size) 3)).trans k_R_1_3
      clear hW hp
      refine ⟨rfl, ?_⟩
      go_big_quiet_op
      first | exact rfl
    · exact locS_const _
    try simp only [Act.put, List.setIfInBounds_toArray, List.set_cons_succ, List.set_cons_zero, Nat.reduceAdd]
    apply wpS_open (openW w.heap.size s)
    · intro γ W hW hp
      refine ⟨rfl, ?_⟩
      go_simp
      refine plainNew rfl ?_
      exact open_W (TS W (hx.below hW) (hz.below hW)) (by (have := hW.size; (try simp only [World.size_alloc, World.size_setCell, World.size_drew, World.size_drewN'] at this); omega))
    try simp only [Act.put, List.setIfInBounds_toArray, List.set_cons_succ, List.set_cons_zero, Nat.reduceAdd]
    apply wpS_open (newBox _ _ _)
    · intro γ W hW hp
      refine ⟨rfl, ?_⟩
      go_simp
      exact ⟨⟨⟨_, rfl, hW.size, heap_alloc_new _ _⟩, fun _ => ⟨_, rfl, Nat.le_refl _, by simp⟩⟩, (Below.refl _ _).alloc (Nat.le_refl _) _⟩
    try simp only [Act.put, List.setIfInBounds_toArray, List.set_cons_succ, List.set_cons_zero, Nat.reduceAdd]
    apply wpS_open (newBox _ _ _)
    · intro γ W hW hp
      refine ⟨rfl, ?_⟩
      go_simp
      exact ⟨⟨⟨_, rfl, hW.size, heap_alloc_new _ _⟩, fun _ => ⟨_, rfl, Nat.le_refl _, by simp⟩⟩, (Below.refl _ _).alloc (Nat.le_refl _) _⟩
    try simp only [Act.put, List.setIfInBounds_toArray, List.set_cons_succ, List.set_cons_zero, Nat.reduceAdd]
    apply wpS_end
    intro γ w2 hb2 hG2 hA2
    have hg2_2 := hG2 _ (List.mem_append_left _ (List.mem_append_left _ (List.mem_append_left _ (List.mem_append_right _ (List.mem_singleton.2 rfl)))))
    dsimp only at hg2_2
    have hg2_5 := hG2 _ (List.mem_append_left _ (List.mem_append_left _ (List.mem_append_right _ (List.mem_singleton.2 rfl))))
    dsimp only at hg2_5
    obtain ⟨g2_6, e2_6, l2_6, k2_6⟩ := hG2 _ (List.mem_append_left _ (List.mem_append_right _ (List.mem_singleton.2 rfl)))
    dsimp only at e2_6 l2_6 k2_6
    obtain ⟨g2_7, e2_7, l2_7, k2_7⟩ := hG2 _ (List.mem_append_right _ (List.mem_singleton.2 rfl))
    dsimp only at e2_7 l2_7 k2_7
    have kb2_6 := fun o => blk_cell k2_6 o
    have fb2_6 := fun o => blk_frozen k2_6 o
    have lb2_6 := blk_lt' k2_6
    have kb2_7 := fun o => blk_cell k2_7 o
    have fb2_7 := fun o => blk_frozen k2_7 o
    have lb2_7 := blk_lt' k2_7
    have hne2_6_7 : g2_6 ≠ g2_7 := fun ee => hA2 _ (List.mem_append_left _ (List.mem_append_right _ (List.mem_singleton.2 rfl))) _ (List.mem_append_right _ (List.mem_singleton.2 rfl)) rfl rfl (show (6 : Nat) ≠ 7 by decide) (by dsimp only; rw [e2_6, e2_7, ee])
    have ne2_6_C : w.heap.size ≠ g2_6 := Nat.ne_of_lt (Nat.lt_of_lt_of_le l_C_1 l2_6)
    have ne2_6_R : w.heap.size + 1 ≠ g2_6 := Nat.ne_of_lt (Nat.lt_of_lt_of_le l_R_1 l2_6)
    have ne2_6_O : w.heap.size + 1 + 1 ≠ g2_6 := Nat.ne_of_lt (Nat.lt_of_lt_of_le l_O_1 l2_6)
    have lw2_6 : w.heap.size ≤ g2_6 := Nat.le_trans hB1.size l2_6
    have ne2_7_C : w.heap.size ≠ g2_7 := Nat.ne_of_lt (Nat.lt_of_lt_of_le l_C_1 l2_7)
    have ne2_7_R : w.heap.size + 1 ≠ g2_7 := Nat.ne_of_lt (Nat.lt_of_lt_of_le l_R_1 l2_7)
    have ne2_7_O : w.heap.size + 1 + 1 ≠ g2_7 := Nat.ne_of_lt (Nat.lt_of_lt_of_le l_O_1 l2_7)
    have lw2_7 : w.heap.size ≤ g2_7 := Nat.le_trans hB1.size l2_7
    clear hG2 hA2
    try simp only [e2_6, e2_7]
    clear e2_6
    clear e2_7
    simp only [List.drop_succ_cons, List.drop_zero]
    have hz2 := hb2.size
    (try simp only [World.size_alloc, World.size_setCell, World.size_drew, World.size_drewN'] at hz2)
    obtain ⟨b3, a3, n3, c3, e3, ht, -⟩ := hg2_2
    obtain ⟨b4, a4, n4, c4, e4, hs, -⟩ := hg2_5
    simp only [e3, e4]
    clear e3 e4
    have H_C_2 := (hb2.block (w.heap.size) (blk_lt' H_C_1.out)).trans H_C_1.out
    clear k_C_1_0 k_C_1_1 f_C_1 H_C_1
    obtain ⟨k_C_2_0, k_C_2_1, f_C_2, l_C_2⟩ := bk2 H_C_2
    replace H_C_2 := Lib.hid H_C_2
    have H_R_2 := (hb2.block (w.heap.size + 1) (blk_lt' H_R_1.out)).trans H_R_1.out
    clear k_R_1_0 k_R_1_1 k_R_1_2 k_R_1_3 f_R_1 H_R_1
    obtain ⟨k_R_2_0, k_R_2_1, k_R_2_2, k_R_2_3, f_R_2, l_R_2⟩ := bk4 H_R_2
    replace H_R_2 := Lib.hid H_R_2
    have H_O_2 := (hb2.block (w.heap.size + 1 + 1) (blk_lt' H_O_1.out)).trans H_O_1.out
    clear k_O_1_0 k_O_1_1 k_O_1_2 k_O_1_3 f_O_1 H_O_1
    obtain ⟨k_O_2_0, k_O_2_1, k_O_2_2, k_O_2_3, f_O_2, l_O_2⟩ := bk4 H_O_2
    replace H_O_2 := Lib.hid H_O_2
    replace hx := hx.below hb2
    replace hz := hz.below hb2
    have hB2 : Below w.heap.size w w2 := below_via hb2 (by assumption) (by first | exact hB1.size | go_size)
    go_upto_region 2 with (fail)
    replace H_C_2 := H_C_2.out
    replace H_R_2 := H_R_2.out
    replace H_O_2 := H_O_2.out
    refine chk (fun W => Below w.heap.size w W ∧ W.heap[w.heap.size]? = some (.cells #[.int .i64 A, .int .i64 B] 33 (0, 0)) ∧ W.heap[w.heap.size + 1 + 1]? = some (.cells #[.bool false, .slice none 0 0, .bool false, .slice none 0 0] 37 (0, 0)) ∧ W.heap[g2_6]? = some (.cells #[.bool b3, .slice a3 n3 c3] 35 (0, 0)) ∧ W.heap[g2_7]? = some (.cells #[.bool b4, .slice a4 n4 c4] 35 (0, 0)) ∧ Wx W b3 a3 n3 c3 t ∧ Wx W b4 a4 n4 c4 s) (by refine ⟨?_, ?_, ?_, ?_, ?_, ?_, ?_⟩ <;> (repeat' first | (with_reducible first | assumption | (apply Ne.symm; assumption) | apply Nat.le_refl | apply Nat.le_add_right | apply zL | apply zRf | apply Wx.box | apply Wx.box4 | apply zWa | apply Wx.drew | apply zWn | apply bx_drew | apply bx_drewN | apply bx_set3 | apply bx_set2 | apply bx_set4 | apply bx_set1) | ((with_reducible apply bx_new); (focus (go_size; done))) | (with_reducible first | apply zOl | apply zFa | apply zDn | apply zDr | apply zAl | apply zSt | refine zVi (by assumption) ?_ ?_) | go_size | omega)) ?_
    try clear ht
    try clear hs
    clear k_C_2_0 k_C_2_1 f_C_2 H_C_2
    clear k_R_2_0 k_R_2_1 k_R_2_2 k_R_2_3 f_R_2 H_R_2
    clear k_O_2_0 k_O_2_1 k_O_2_2 k_O_2_3 f_O_2 H_O_2
    clear hB2
    try clear kb2_6
    try clear fb2_6
    try clear k2_6
    try clear kb2_7
    try clear fb2_7
    try clear k2_7
    rintro w3 ⟨hB3, H_C_3, H_O_3, H_T_3, H_S_3, ht', hs'⟩
    obtain ⟨k_C_3_0, k_C_3_1, f_C_3, l_C_3⟩ := bk2 H_C_3
    replace H_C_3 := Lib.hid H_C_3
    obtain ⟨k_O_3_0, k_O_3_1, k_O_3_2, k_O_3_3, f_O_3, l_O_3⟩ := bk4 H_O_3
    replace H_O_3 := Lib.hid H_O_3
    obtain ⟨k_T_3_0, k_T_3_1, f_T_3, l_T_3⟩ := bk2 H_T_3
    replace H_T_3 := Lib.hid H_T_3
    obtain ⟨k_S_3_0, k_S_3_1, f_S_3, l_S_3⟩ := bk2 H_S_3
    replace H_S_3 := Lib.hid H_S_3
    have ht := ht'
    clear ht'
    have hs := hs'
    clear hs'
    obtain rfl : n4 = 0 := by rw [hs.ln]; exact hs00
    clear hA hBB hcv hx hz lx lz TT TS hlt hls hN ht hs
    go_wp2_with fail
    refine bodyPost_ret (v := .tuple #[.agg #[.bool false, .slice none 0 0, .bool false, .slice none 0 0], .bool false]) (by simp [results, Try.results17, go_sem, k_O_3_0, k_O_3_1, k_O_3_2, k_O_3_3]) rfl ⟨_, _, _, _, _, _, _, _, rfl, Wx.zero' _, Wx.zero' _, fr_none _, fr_none _, ?_⟩
    have HO := H_O_3.out
    (repeat' first | (with_reducible first | assumption | (apply Ne.symm; assumption) | apply Nat.le_refl | apply Nat.le_add_right | apply zL | apply zRf | apply Wx.box | apply Wx.box4 | apply zWa | apply Wx.drew | apply zWn | apply bx_drew | apply bx_drewN | apply bx_set3 | apply bx_set2 | apply bx_set4 | apply bx_set1) | ((with_reducible apply bx_new); (focus (go_size; done))) | (with_reducible first | apply zOl | apply zFa | apply zDn | apply zDr | apply zAl | apply zSt | refine zVi (by assumption) ?_ ?_) | go_size | omega)
  · obtain ⟨t1, ht1⟩ : ∃ v, sgZ s t = v := ⟨_, rfl⟩
    obtain ⟨s1, hs1⟩ : ∃ v, sgZ s s = v := ⟨_, rfl⟩
    have hs00 : ln s ≠ 0 := fun e => h0 (ln_zero.1 e)
    have hsp := db_spec (4 * absI (coV A B)) t s
    rw [ht1, hs1] at hsp
    have lt1 : ln t1 ≤ 8000 := by rw [← ht1]; unfold sgZ; split <;> (try rw [ln_neg]) <;> omega
    have ls1 : ln s1 ≤ 8000 := by rw [← hs1]; unfold sgZ; split <;> (try rw [ln_neg]) <;> omega
    have hd1 := dv_pos (n := 4 * absI (coV A B)) (t := t1) (b := s1) (by omega)
    have hd2 := dv_le (n := 4 * absI (coV A B)) (t := t1) (b := s1) (by omega)
    have hcb := coV_bd hA hBB
    have hab : absI (coV A B) ≤ 6700000000 := by unfold absI; omega
    have TD0 : ∀ W (b : Bool) (a : Option Addr) (n c : Nat) (b2 : Bool) (a2 : Option Addr) (n2 c2 : Nat), Wx W b a n c t1 → Wx W b2 a2 n2 c2 s1 → Calls Try.prog 33 #[.agg #[.int .i64 A, .int .i64 B], .agg #[.bool b, .slice a n c], .agg #[.bool b2, .slice a2 n2 c2]] W fun e w' => e = .returned (.int .i64 (dvZ (4 * absI (coV A B)) t1 s1)) ∧ Below W.heap.size W w' := fun W b a n c b2 a2 n2 c2 h1 h2 => xdDivisor_any A B t1 s1 b b2 a a2 n c n2 c2 W hA hBB hcv h1 h2 lt1 ls1
    obtain ⟨p, hp⟩ : ∃ v, dbN (4 * absI (coV A B)) t s = v := ⟨_, rfl⟩
    obtain ⟨q, hq⟩ : ∃ v, dbD (4 * absI (coV A B)) t s = v := ⟨_, rfl⟩
    rw [hp, hq] at hsp hd
    generalize dbl (4 * absI (coV A B)) A B x z = DB at *
    generalize dvZ (4 * absI (coV A B)) t1 s1 = d at *
    have TO1 : ∀ W (b : Bool) (a : Option Addr) (n c : Nat), Wx W b a n c t1 → Calls Try.prog 34 #[.agg #[.bool b, .slice a n c], .int .i64 d] W (NewQp W p) := fun W b a n c h1 => (bgOver_any b a n c t1 d W h1 (by have := h1.ln; omega) (by omega) (by omega)).mono fun e w' h => h.qp hsp.1
    have TO2 : ∀ W (b : Bool) (a : Option Addr) (n c : Nat), Wx W b a n c s1 → Calls Try.prog 34 #[.agg #[.bool b, .slice a n c], .int .i64 d] W (NewQp W q) := fun W b a n c h1 => (bgOver_any b a n c s1 d W h1 (by have := h1.ln; omega) (by omega) (by omega)).mono fun e w' h => h.qp hsp.2
    have TG0 : ∀ W (b : Bool) (a : Option Addr) (n c : Nat) (b2 : Bool) (a2 : Option Addr) (n2 c2 : Nat), Wx W b a n c p → Wx W b2 a2 n2 c2 q → Calls Try.prog 29 #[.agg #[.bool b, .slice a n c, .bool b2, .slice a2 n2 c2]] W fun e w' => e = .returned (.bool (raB p q)) ∧ Below W.heap.size W w' := fun W b a n c b2 a2 n2 c2 h1 h2 => xdGood_any b b2 a a2 n c n2 c2 p q W h1 h2
    have hD2 : ∃ R, raB p q = R ∧ (R = true ∧ DB = (p, q, true) ∨ R = false ∧ DB = (0, 0, false)) := ⟨_, rfl, hd⟩
    obtain ⟨R, hR, hR2⟩ := hD2
    have TD := TD0
    have TG := TG0
    rw [hR] at TG
    clear hd hsp hd1 hd2 hcb hab hp hq TD0 TG0 hR hcv
    have HT1 := Lib.hid ht1
    have HS1 := Lib.hid hs1
    have H0 := Lib.hid h0
    clear ht1 hs1 h0
    have HRR := Lib.hid hR2
    clear hR2
    have tok1 : True := trivial
    have tok2 : True := trivial
    have tok3 : True := trivial
    have tok4 : True := trivial
    have tok5 : True := trivial
    have tok6 : True := trivial
    have tok7 : True := trivial
    have tok8 : True := trivial
    have tok9 : True := trivial
    have tok10 : True := trivial
    have tok11 : True := trivial
    have tok12 : True := trivial
    have tok13 : True := trivial
    have tok14 : True := trivial
    go_enter Try.func17, Try.ntmps17
    go_wp2_with fail
    refine chk (fun W => Below w.heap.size w W ∧ W.heap[w.heap.size]? = some (.cells #[.int .i64 A, .int .i64 B] 33 (0, 0)) ∧ W.heap[w.heap.size + 1]? = some (.cells #[.bool b, .slice a n c, .bool b2, .slice a2 n2 c2] 37 (0, 0)) ∧ W.heap[w.heap.size + 1 + 1]? = some (.cells #[.bool false, .slice none 0 0, .bool false, .slice none 0 0] 37 (0, 0)) ∧ Wx W b a n c x ∧ Wx W b2 a2 n2 c2 z) (by refine ⟨?_, ?_, ?_, ?_, ?_, ?_⟩ <;> (repeat' first | (with_reducible first | assumption | (apply Ne.symm; assumption) | apply Nat.le_refl | apply Nat.le_add_right | apply zL | apply zRf | apply Wx.box | apply Wx.box4 | apply zWa | apply Wx.drew | apply zWn | apply bx_drew | apply bx_drewN | apply bx_set3 | apply bx_set2 | apply bx_set4 | apply bx_set1) | ((with_reducible apply bx_new); (focus (go_size; done))) | (with_reducible first | apply zOl | apply zFa | apply zDn | apply zDr | apply zAl | apply zSt | refine zVi (by assumption) ?_ ?_) | go_size | omega)) ?_
    try clear hx
    try clear hz
    rintro w1 ⟨hB1, H_C_1, H_R_1, H_O_1, hx', hz'⟩
    obtain ⟨k_C_1_0, k_C_1_1, f_C_1, l_C_1⟩ := bk2 H_C_1
    replace H_C_1 := Lib.hid H_C_1
    obtain ⟨k_R_1_0, k_R_1_1, k_R_1_2, k_R_1_3, f_R_1, l_R_1⟩ := bk4 H_R_1
    replace H_R_1 := Lib.hid H_R_1
    obtain ⟨k_O_1_0, k_O_1_1, k_O_1_2, k_O_1_3, f_O_1, l_O_1⟩ := bk4 H_O_1
    replace H_O_1 := Lib.hid H_O_1
    have hx := hx'
    clear hx'
    have hz := hz'
    clear hz'
    refine wp_open (n := 8) (by kernel_rfl) (by kernel_rfl) (by kernel_rfl) (by kernel_rfl) ?_
    simp only [List.take_succ_cons, List.take_zero]
    apply wpS_quiet
    · intro γ W hW hp
      have hs := hW.size
      (try simp only [World.size_alloc, World.size_setCell, World.size_drew, World.size_drewN'] at hs)
      have kx_0 := fun x : Over W => ((cellAt x.lies (w.heap.size) (by omega) 0).trans (cellAt hW (w.heap.size) (by first | omega | go_size) 0)).trans k_C_1_0
      have kx_1 := fun x : Over W => ((cellAt x.lies (w.heap.size) (by omega) 1).trans (cellAt hW (w.heap.size) (by first | omega | go_size) 1)).trans k_C_1_1
      clear hW hp
      refine ⟨rfl, ?_⟩
      go_big_quiet_op
      first | exact rfl
    · exact locS_const _
    try simp only [Act.put, List.setIfInBounds_toArray, List.set_cons_succ, List.set_cons_zero, Nat.reduceAdd]
    apply wpS_quiet
    · intro γ W hW hp
      have hs := hW.size
      (try simp only [World.size_alloc, World.size_setCell, World.size_drew, World.size_drewN'] at hs)
      have kx_0 := fun x : Over W => ((cellAt x.lies (w.heap.size + 1) (by omega) 0).trans (cellAt hW (w.heap.size + 1) (by first | omega | go_size) 0)).trans k_R_1_0
      have kx_1 := fun x : Over W => ((cellAt x.lies (w.heap.size + 1) (by omega) 1).trans (cellAt hW (w.heap.size + 1) (by first | omega | go_size) 1)).trans k_R_1_1
      have kx_2 := fun x : Over W => ((cellAt x.lies (w.heap.size + 1) (by omega) 2).trans (cellAt hW (w.heap.size + 1) (by first | omega | go_size) 2)).trans k_R_1_2
      have kx_3 := fun x : Over W => ((cellAt x.lies (w.heap.size + 1) (by omega) 3).trans (cellAt hW (w.heap.size + 1) (by first | omega | go_size) 3)).trans k_R_1_3
      clear hW hp
      refine ⟨rfl, ?_⟩
      go_big_quiet_op
      first | exact rfl
    · exact locS_const _
    try simp only [Act.put, List.setIfInBounds_toArray, List.set_cons_succ, List.set_cons_zero, Nat.reduceAdd]
    apply wpS_open (openW w.heap.size t)
    · intro γ W hW hp
      refine ⟨rfl, ?_⟩
      go_simp
      refine plainNew rfl ?_
      exact open_W (TT W (hx.below hW) (hz.below hW)) (by (have := hW.size; (try simp only [World.size_alloc, World.size_setCell, World.size_drew, World.size_drewN'] at this); omega))
    try simp only [Act.put, List.setIfInBounds_toArray, List.set_cons_succ, List.set_cons_zero, Nat.reduceAdd]
    apply wpS_quiet
    · intro γ W hW hp
      have hs := hW.size
      (try simp only [World.size_alloc, World.size_setCell, World.size_drew, World.size_drewN'] at hs)
      have kx_0 := fun x : Over W => ((cellAt x.lies (w.heap.size) (by omega) 0).trans (cellAt hW (w.heap.size) (by first | omega | go_size) 0)).trans k_C_1_0
      have kx_1 := fun x : Over W => ((cellAt x.lies (w.heap.size) (by omega) 1).trans (cellAt hW (w.heap.size) (by first | omega | go_size) 1)).trans k_C_1_1
      clear hW hp
      refine ⟨rfl, ?_⟩
      go_big_quiet_op
      first | exact rfl
    · exact locS_const _
    try simp only [Act.put, List.setIfInBounds_toArray, List.set_cons_succ, List.set_cons_zero, Nat.reduceAdd]
    apply wpS_quiet
    · intro γ W hW hp
      have hs := hW.size
      (try simp only [World.size_alloc, World.size_setCell, World.size_drew, World.size_drewN'] at hs)
      have kx_0 := fun x : Over W => ((cellAt x.lies (w.heap.size + 1) (by omega) 0).trans (cellAt hW (w.heap.size + 1) (by first | omega | go_size) 0)).trans k_R_1_0
      have kx_1 := fun x : Over W => ((cellAt x.lies (w.heap.size + 1) (by omega) 1).trans (cellAt hW (w.heap.size + 1) (by first | omega | go_size) 1)).trans k_R_1_1
      have kx_2 := fun x : Over W => ((cellAt x.lies (w.heap.size + 1) (by omega) 2).trans (cellAt hW (w.heap.size + 1) (by first | omega | go_size) 2)).trans k_R_1_2
      have kx_3 := fun x : Over W => ((cellAt x.lies (w.heap.size + 1) (by omega) 3).trans (cellAt hW (w.heap.size + 1) (by first | omega | go_size) 3)).trans k_R_1_3
      clear hW hp
      refine ⟨rfl, ?_⟩
      go_big_quiet_op
      first | exact rfl
    · exact locS_const _
    try simp only [Act.put, List.setIfInBounds_toArray, List.set_cons_succ, List.set_cons_zero, Nat.reduceAdd]
    apply wpS_open (openW w.heap.size s)
    · intro γ W hW hp
      refine ⟨rfl, ?_⟩
      go_simp
      refine plainNew rfl ?_
      exact open_W (TS W (hx.below hW) (hz.below hW)) (by (have := hW.size; (try simp only [World.size_alloc, World.size_setCell, World.size_drew, World.size_drewN'] at this); omega))
    try simp only [Act.put, List.setIfInBounds_toArray, List.set_cons_succ, List.set_cons_zero, Nat.reduceAdd]
    apply wpS_open (newBox _ _ _)
    · intro γ W hW hp
      refine ⟨rfl, ?_⟩
      go_simp
      exact ⟨⟨⟨_, rfl, hW.size, heap_alloc_new _ _⟩, fun _ => ⟨_, rfl, Nat.le_refl _, by simp⟩⟩, (Below.refl _ _).alloc (Nat.le_refl _) _⟩
    try simp only [Act.put, List.setIfInBounds_toArray, List.set_cons_succ, List.set_cons_zero, Nat.reduceAdd]
    apply wpS_open (newBox _ _ _)
    · intro γ W hW hp
      refine ⟨rfl, ?_⟩
      go_simp
      exact ⟨⟨⟨_, rfl, hW.size, heap_alloc_new _ _⟩, fun _ => ⟨_, rfl, Nat.le_refl _, by simp⟩⟩, (Below.refl _ _).alloc (Nat.le_refl _) _⟩
    try simp only [Act.put, List.setIfInBounds_toArray, List.set_cons_succ, List.set_cons_zero, Nat.reduceAdd]
    apply wpS_end
    intro γ w2 hb2 hG2 hA2
    have hg2_2 := hG2 _ (List.mem_append_left _ (List.mem_append_left _ (List.mem_append_left _ (List.mem_append_right _ (List.mem_singleton.2 rfl)))))
    dsimp only at hg2_2
    have hg2_5 := hG2 _ (List.mem_append_left _ (List.mem_append_left _ (List.mem_append_right _ (List.mem_singleton.2 rfl))))
    dsimp only at hg2_5
    obtain ⟨g2_6, e2_6, l2_6, k2_6⟩ := hG2 _ (List.mem_append_left _ (List.mem_append_right _ (List.mem_singleton.2 rfl)))
    dsimp only at e2_6 l2_6 k2_6
    obtain ⟨g2_7, e2_7, l2_7, k2_7⟩ := hG2 _ (List.mem_append_right _ (List.mem_singleton.2 rfl))
    dsimp only at e2_7 l2_7 k2_7
    have kb2_6 := fun o => blk_cell k2_6 o
    have fb2_6 := fun o => blk_frozen k2_6 o
    have lb2_6 := blk_lt' k2_6
    have kb2_7 := fun o => blk_cell k2_7 o
    have fb2_7 := fun o => blk_frozen k2_7 o
    have lb2_7 := blk_lt' k2_7
    have hne2_6_7 : g2_6 ≠ g2_7 := fun ee => hA2 _ (List.mem_append_left _ (List.mem_append_right _ (List.mem_singleton.2 rfl))) _ (List.mem_append_right _ (List.mem_singleton.2 rfl)) rfl rfl (show (6 : Nat) ≠ 7 by decide) (by dsimp only; rw [e2_6, e2_7, ee])
    have ne2_6_C : w.heap.size ≠ g2_6 := Nat.ne_of_lt (Nat.lt_of_lt_of_le l_C_1 l2_6)
    have ne2_6_R : w.heap.size + 1 ≠ g2_6 := Nat.ne_of_lt (Nat.lt_of_lt_of_le l_R_1 l2_6)
    have ne2_6_O : w.heap.size + 1 + 1 ≠ g2_6 := Nat.ne_of_lt (Nat.lt_of_lt_of_le l_O_1 l2_6)
    have lw2_6 : w.heap.size ≤ g2_6 := Nat.le_trans hB1.size l2_6
    have ne2_7_C : w.heap.size ≠ g2_7 := Nat.ne_of_lt (Nat.lt_of_lt_of_le l_C_1 l2_7)
    have ne2_7_R : w.heap.size + 1 ≠ g2_7 := Nat.ne_of_lt (Nat.lt_of_lt_of_le l_R_1 l2_7)
    have ne2_7_O : w.heap.size + 1 + 1 ≠ g2_7 := Nat.ne_of_lt (Nat.lt_of_lt_of_le l_O_1 l2_7)
    have lw2_7 : w.heap.size ≤ g2_7 := Nat.le_trans hB1.size l2_7
    clear hG2 hA2
    try simp only [e2_6, e2_7]
    clear e2_6
    clear e2_7
    simp only [List.drop_succ_cons, List.drop_zero]
    have hz2 := hb2.size
    (try simp only [World.size_alloc, World.size_setCell, World.size_drew, World.size_drewN'] at hz2)
    obtain ⟨b3, a3, n3, c3, e3, ht, -⟩ := hg2_2
    obtain ⟨b4, a4, n4, c4, e4, hs, -⟩ := hg2_5
    simp only [e3, e4]
    clear e3 e4
    have H_C_2 := (hb2.block (w.heap.size) (blk_lt' H_C_1.out)).trans H_C_1.out
    clear k_C_1_0 k_C_1_1 f_C_1 H_C_1
    obtain ⟨k_C_2_0, k_C_2_1, f_C_2, l_C_2⟩ := bk2 H_C_2
    replace H_C_2 := Lib.hid H_C_2
    have H_R_2 := (hb2.block (w.heap.size + 1) (blk_lt' H_R_1.out)).trans H_R_1.out
    clear k_R_1_0 k_R_1_1 k_R_1_2 k_R_1_3 f_R_1 H_R_1
    obtain ⟨k_R_2_0, k_R_2_1, k_R_2_2, k_R_2_3, f_R_2, l_R_2⟩ := bk4 H_R_2
    replace H_R_2 := Lib.hid H_R_2
    have H_O_2 := (hb2.block (w.heap.size + 1 + 1) (blk_lt' H_O_1.out)).trans H_O_1.out
    clear k_O_1_0 k_O_1_1 k_O_1_2 k_O_1_3 f_O_1 H_O_1
    obtain ⟨k_O_2_0, k_O_2_1, k_O_2_2, k_O_2_3, f_O_2, l_O_2⟩ := bk4 H_O_2
    replace H_O_2 := Lib.hid H_O_2
    replace hx := hx.below hb2
    replace hz := hz.below hb2
    have hB2 : Below w.heap.size w w2 := below_via hb2 (by assumption) (by first | exact hB1.size | go_size)
    go_upto_region 2 with (fail)
    replace H_C_2 := H_C_2.out
    replace H_R_2 := H_R_2.out
    replace H_O_2 := H_O_2.out
    refine chk (fun W => Below w.heap.size w W ∧ W.heap[w.heap.size]? = some (.cells #[.int .i64 A, .int .i64 B] 33 (0, 0)) ∧ W.heap[w.heap.size + 1 + 1]? = some (.cells #[.bool false, .slice none 0 0, .bool false, .slice none 0 0] 37 (0, 0)) ∧ W.heap[g2_6]? = some (.cells #[.bool b3, .slice a3 n3 c3] 35 (0, 0)) ∧ W.heap[g2_7]? = some (.cells #[.bool b4, .slice a4 n4 c4] 35 (0, 0)) ∧ Wx W b3 a3 n3 c3 t ∧ Wx W b4 a4 n4 c4 s) (by refine ⟨?_, ?_, ?_, ?_, ?_, ?_, ?_⟩ <;> (repeat' first | (with_reducible first | assumption | (apply Ne.symm; assumption) | apply Nat.le_refl | apply Nat.le_add_right | apply zL | apply zRf | apply Wx.box | apply Wx.box4 | apply zWa | apply Wx.drew | apply zWn | apply bx_drew | apply bx_drewN | apply bx_set3 | apply bx_set2 | apply bx_set4 | apply bx_set1) | ((with_reducible apply bx_new); (focus (go_size; done))) | (with_reducible first | apply zOl | apply zFa | apply zDn | apply zDr | apply zAl | apply zSt | refine zVi (by assumption) ?_ ?_) | go_size | omega)) ?_
    try clear ht
    try clear hs
    clear k_C_2_0 k_C_2_1 f_C_2 H_C_2
    clear k_R_2_0 k_R_2_1 k_R_2_2 k_R_2_3 f_R_2 H_R_2
    clear k_O_2_0 k_O_2_1 k_O_2_2 k_O_2_3 f_O_2 H_O_2
    clear hB2
    try clear kb2_6
    try clear fb2_6
    try clear k2_6
    try clear kb2_7
    try clear fb2_7
    try clear k2_7
    rintro w3 ⟨hB3, H_C_3, H_O_3, H_T_3, H_S_3, ht', hs'⟩
    obtain ⟨k_C_3_0, k_C_3_1, f_C_3, l_C_3⟩ := bk2 H_C_3
    replace H_C_3 := Lib.hid H_C_3
    obtain ⟨k_O_3_0, k_O_3_1, k_O_3_2, k_O_3_3, f_O_3, l_O_3⟩ := bk4 H_O_3
    replace H_O_3 := Lib.hid H_O_3
    obtain ⟨k_T_3_0, k_T_3_1, f_T_3, l_T_3⟩ := bk2 H_T_3
    replace H_T_3 := Lib.hid H_T_3
    obtain ⟨k_S_3_0, k_S_3_1, f_S_3, l_S_3⟩ := bk2 H_S_3
    replace H_S_3 := Lib.hid H_S_3
    have ht := ht'
    clear ht'
    have hs := hs'
    clear hs'
    clear TT TS
    have hn4 : n4 ≠ 0 := by rw [hs.ln]; exact hs00
    have hn4' : ((n4 : Int) == 0) = false := by simp; omega
    have hn3 : n3 ≤ 8000 := by rw [ht.ln]; exact hlt
    have hn4b : n4 ≤ 8000 := by rw [hs.ln]; exact hls
    have hb4n := Lib.hid hs.neg
    by_cases hneg : s < 0
    · obtain rfl : b4 = true := by rw [hb4n.out]; simp [ngB, hneg]
      have et := Lib.hid (show -t = t1 by rw [← HT1.out]; simp [sgZ, hneg])
      have es := Lib.hid (show -s = s1 by rw [← HS1.out]; simp [sgZ, hneg])
      go_upto_region 6 with (first | (have _t := tok4; go_at_call 32; (with_reducible refine ((bgMinus_any b3 a3 n3 c3 t _ (ht.below (by repeat' first | (with_reducible first | apply zRf | assumption | apply zDn | apply zDr | apply zAl | apply zSt | refine zVi (by assumption) ?_ ?_) | go_size)) (by omega))).mono ?_); rintro e w4 ⟨b5, a5, n5, c5, rfl, ht5, f5, hb4⟩; clear tok4 _t; have hz4 := hb4.size; (try simp only [World.size_alloc, World.size_setCell, World.size_drew, World.size_drewN'] at hz4); (try (have kq := cellAt hb4 (w.heap.size) (by go_size); have k4_w_0_0 := kq 0; have k4_w_0_1 := kq 1; clear kq; have f4_w_0 := frozAt hb4 (w.heap.size) (by go_size); simp [go_sem, *] at k4_w_0_0 k4_w_0_1 f4_w_0)); (try have l4_w_0 : w.heap.size < w4.heap.size := by omega); (try (have kq := cellAt hb4 (w.heap.size + 1) (by go_size); have k4_w_1_0 := kq 0; have k4_w_1_1 := kq 1; have k4_w_1_2 := kq 2; have k4_w_1_3 := kq 3; clear kq; have f4_w_1 := frozAt hb4 (w.heap.size + 1) (by go_size); simp [go_sem, *] at k4_w_1_0 k4_w_1_1 k4_w_1_2 k4_w_1_3 f4_w_1)); (try have l4_w_1 : w.heap.size + 1 < w4.heap.size := by omega); (try (have kq := cellAt hb4 (w.heap.size + 1 + 1) (by go_size); have k4_w_2_0 := kq 0; have k4_w_2_1 := kq 1; have k4_w_2_2 := kq 2; have k4_w_2_3 := kq 3; clear kq; have f4_w_2 := frozAt hb4 (w.heap.size + 1 + 1) (by go_size); simp [go_sem, *] at k4_w_2_0 k4_w_2_1 k4_w_2_2 k4_w_2_3 f4_w_2)); (try have l4_w_2 : w.heap.size + 1 + 1 < w4.heap.size := by omega); (try (have kq := cellAt hb4 (g2_6) (by go_size); have k4_g2_6_0 := kq 0; have k4_g2_6_1 := kq 1; clear kq; have f4_g2_6 := frozAt hb4 (g2_6) (by go_size); simp [go_sem, *] at k4_g2_6_0 k4_g2_6_1 f4_g2_6)); (try have l4_g2_6 : g2_6 < w4.heap.size := by omega); (try (have kq := cellAt hb4 (g2_7) (by go_size); have k4_g2_7_0 := kq 0; have k4_g2_7_1 := kq 1; clear kq; have f4_g2_7 := frozAt hb4 (g2_7) (by go_size); simp [go_sem, *] at k4_g2_7_0 k4_g2_7_1 f4_g2_7)); (try have l4_g2_7 : g2_7 < w4.heap.size := by omega); (try clear k1_w_0_0 k1_w_0_1 f1_w_0); (try clear l1_w_0); (try clear k1_w_1_0 k1_w_1_1 k1_w_1_2 k1_w_1_3 f1_w_1); (try clear l1_w_1); (try clear k1_w_2_0 k1_w_2_1 k1_w_2_2 k1_w_2_3 f1_w_2); (try clear l1_w_2); (try clear k2_w_0_0 k2_w_0_1 f2_w_0); (try clear l2_w_0); (try clear k2_w_1_0 k2_w_1_1 k2_w_1_2 k2_w_1_3 f2_w_1); (try clear l2_w_1); (try clear k2_w_2_0 k2_w_2_1 k2_w_2_2 k2_w_2_3 f2_w_2); (try clear l2_w_2); (try clear k3_w_0_0 k3_w_0_1 f3_w_0); (try clear l3_w_0); (try clear k3_w_1_0 k3_w_1_1 k3_w_1_2 k3_w_1_3 f3_w_1); (try clear l3_w_1); (try clear k3_w_2_0 k3_w_2_1 k3_w_2_2 k3_w_2_3 f3_w_2); (try clear l3_w_2); (try clear k3_g2_6_0 k3_g2_6_1 f3_g2_6); (try clear l3_g2_6); (try clear k3_g2_7_0 k3_g2_7_1 f3_g2_7); (try clear l3_g2_7)))
      have H_C_4 := (hb4.block (w.heap.size) (blk_lt' H_C_3.out)).trans H_C_3.out
      clear k_C_3_0 k_C_3_1 f_C_3 H_C_3
      obtain ⟨k_C_4_0, k_C_4_1, f_C_4, l_C_4⟩ := bk2 H_C_4
      replace H_C_4 := Lib.hid H_C_4
      have H_O_4 := (hb4.block (w.heap.size + 1 + 1) (blk_lt' H_O_3.out)).trans H_O_3.out
      clear k_O_3_0 k_O_3_1 k_O_3_2 k_O_3_3 f_O_3 H_O_3
      obtain ⟨k_O_4_0, k_O_4_1, k_O_4_2, k_O_4_3, f_O_4, l_O_4⟩ := bk4 H_O_4
      replace H_O_4 := Lib.hid H_O_4
      have H_T_4 := (hb4.block (g2_6) (blk_lt' H_T_3.out)).trans H_T_3.out
      clear k_T_3_0 k_T_3_1 f_T_3 H_T_3
      obtain ⟨k_T_4_0, k_T_4_1, f_T_4, l_T_4⟩ := bk2 H_T_4
      replace H_T_4 := Lib.hid H_T_4
      have H_S_4 := (hb4.block (g2_7) (blk_lt' H_S_3.out)).trans H_S_3.out
      clear k_S_3_0 k_S_3_1 f_S_3 H_S_3
      obtain ⟨k_S_4_0, k_S_4_1, f_S_4, l_S_4⟩ := bk2 H_S_4
      replace H_S_4 := Lib.hid H_S_4
      replace ht := ht.below hb4
      replace hs := hs.below hb4
      have hB4 : Below w.heap.size w w4 := below_via hb4 (by assumption) (by first | exact hB3.size | go_size)
      replace H_C_4 := H_C_4.out
      replace H_O_4 := H_O_4.out
      replace H_T_4 := H_T_4.out
      replace H_S_4 := H_S_4.out
      refine chk (fun W => Below w.heap.size w W ∧ W.heap[w.heap.size]? = some (.cells #[.int .i64 A, .int .i64 B] 33 (0, 0)) ∧ W.heap[w.heap.size + 1 + 1]? = some (.cells #[.bool false, .slice none 0 0, .bool false, .slice none 0 0] 37 (0, 0)) ∧ W.heap[g2_6]? = some (.cells #[.bool b5, .slice a5 n5 c5] 35 (0, 0)) ∧ W.heap[g2_7]? = some (.cells #[.bool true, .slice a4 n4 c4] 35 (0, 0)) ∧ Wx W b5 a5 n5 c5 (-t) ∧ Wx W true a4 n4 c4 s) (by refine ⟨?_, ?_, ?_, ?_, ?_, ?_, ?_⟩ <;> (repeat' first | (with_reducible first | assumption | (apply Ne.symm; assumption) | apply Nat.le_refl | apply Nat.le_add_right | apply zL | apply zRf | apply Wx.box | apply Wx.box4 | apply zWa | apply Wx.drew | apply zWn | apply bx_drew | apply bx_drewN | apply bx_set3 | apply bx_set2 | apply bx_set4 | apply bx_set1) | ((with_reducible apply bx_new); (focus (go_size; done))) | (with_reducible first | apply zOl | apply zFa | apply zDn | apply zDr | apply zAl | apply zSt | refine zVi (by assumption) ?_ ?_) | go_size | omega)) ?_
      try clear ht5
      try clear hs
      clear k_C_4_0 k_C_4_1 f_C_4 H_C_4
      clear k_O_4_0 k_O_4_1 k_O_4_2 k_O_4_3 f_O_4 H_O_4
      clear k_T_4_0 k_T_4_1 f_T_4 H_T_4
      clear k_S_4_0 k_S_4_1 f_S_4 H_S_4
      clear hB4
      rintro w5 ⟨hB5, H_C_5, H_O_5, H_T_5, H_S_5, ht5', hs'⟩
      obtain ⟨k_C_5_0, k_C_5_1, f_C_5, l_C_5⟩ := bk2 H_C_5
      replace H_C_5 := Lib.hid H_C_5
      obtain ⟨k_O_5_0, k_O_5_1, k_O_5_2, k_O_5_3, f_O_5, l_O_5⟩ := bk4 H_O_5
      replace H_O_5 := Lib.hid H_O_5
      obtain ⟨k_T_5_0, k_T_5_1, f_T_5, l_T_5⟩ := bk2 H_T_5
      replace H_T_5 := Lib.hid H_T_5
      obtain ⟨k_S_5_0, k_S_5_1, f_S_5, l_S_5⟩ := bk2 H_S_5
      replace H_S_5 := Lib.hid H_S_5
      have ht5 := ht5'
      clear ht5'
      have hs := hs'
      clear hs'
      go_upto_region 7 with (first | (have _t := tok6; go_at_call 32; (with_reducible refine ((bgMinus_any true a4 n4 c4 s _ (hs.below (by repeat' first | (with_reducible first | apply zRf | assumption | apply zDn | apply zDr | apply zAl | apply zSt | refine zVi (by assumption) ?_ ?_) | go_size)) (by omega))).mono ?_); rintro e w6 ⟨b6, a6, n6, c6, rfl, hs6, f6, hb6⟩; clear tok6 _t; have hz6 := hb6.size; (try simp only [World.size_alloc, World.size_setCell, World.size_drew, World.size_drewN'] at hz6); (try (have kq := cellAt hb6 (w.heap.size) (by go_size); have k6_w_0_0 := kq 0; have k6_w_0_1 := kq 1; clear kq; have f6_w_0 := frozAt hb6 (w.heap.size) (by go_size); simp [go_sem, *] at k6_w_0_0 k6_w_0_1 f6_w_0)); (try have l6_w_0 : w.heap.size < w6.heap.size := by omega); (try (have kq := cellAt hb6 (w.heap.size + 1) (by go_size); have k6_w_1_0 := kq 0; have k6_w_1_1 := kq 1; have k6_w_1_2 := kq 2; have k6_w_1_3 := kq 3; clear kq; have f6_w_1 := frozAt hb6 (w.heap.size + 1) (by go_size); simp [go_sem, *] at k6_w_1_0 k6_w_1_1 k6_w_1_2 k6_w_1_3 f6_w_1)); (try have l6_w_1 : w.heap.size + 1 < w6.heap.size := by omega); (try (have kq := cellAt hb6 (w.heap.size + 1 + 1) (by go_size); have k6_w_2_0 := kq 0; have k6_w_2_1 := kq 1; have k6_w_2_2 := kq 2; have k6_w_2_3 := kq 3; clear kq; have f6_w_2 := frozAt hb6 (w.heap.size + 1 + 1) (by go_size); simp [go_sem, *] at k6_w_2_0 k6_w_2_1 k6_w_2_2 k6_w_2_3 f6_w_2)); (try have l6_w_2 : w.heap.size + 1 + 1 < w6.heap.size := by omega); (try (have kq := cellAt hb6 (g2_6) (by go_size); have k6_g2_6_0 := kq 0; have k6_g2_6_1 := kq 1; clear kq; have f6_g2_6 := frozAt hb6 (g2_6) (by go_size); simp [go_sem, *] at k6_g2_6_0 k6_g2_6_1 f6_g2_6)); (try have l6_g2_6 : g2_6 < w6.heap.size := by omega); (try (have kq := cellAt hb6 (g2_7) (by go_size); have k6_g2_7_0 := kq 0; have k6_g2_7_1 := kq 1; clear kq; have f6_g2_7 := frozAt hb6 (g2_7) (by go_size); simp [go_sem, *] at k6_g2_7_0 k6_g2_7_1 f6_g2_7)); (try have l6_g2_7 : g2_7 < w6.heap.size := by omega); (try clear k2_w_0_0 k2_w_0_1 f2_w_0); (try clear l2_w_0); (try clear k2_w_1_0 k2_w_1_1 k2_w_1_2 k2_w_1_3 f2_w_1); (try clear l2_w_1); (try clear k2_w_2_0 k2_w_2_1 k2_w_2_2 k2_w_2_3 f2_w_2); (try clear l2_w_2); (try clear k3_w_0_0 k3_w_0_1 f3_w_0); (try clear l3_w_0); (try clear k3_w_1_0 k3_w_1_1 k3_w_1_2 k3_w_1_3 f3_w_1); (try clear l3_w_1); (try clear k3_w_2_0 k3_w_2_1 k3_w_2_2 k3_w_2_3 f3_w_2); (try clear l3_w_2); (try clear k3_g2_6_0 k3_g2_6_1 f3_g2_6); (try clear l3_g2_6); (try clear k3_g2_7_0 k3_g2_7_1 f3_g2_7); (try clear l3_g2_7); (try clear k4_w_0_0 k4_w_0_1 f4_w_0); (try clear l4_w_0); (try clear k4_w_1_0 k4_w_1_1 k4_w_1_2 k4_w_1_3 f4_w_1); (try clear l4_w_1); (try clear k4_w_2_0 k4_w_2_1 k4_w_2_2 k4_w_2_3 f4_w_2); (try clear l4_w_2); (try clear k4_g2_6_0 k4_g2_6_1 f4_g2_6); (try clear l4_g2_6); (try clear k4_g2_7_0 k4_g2_7_1 f4_g2_7); (try clear l4_g2_7); (try clear k5_w_0_0 k5_w_0_1 f5_w_0); (try clear l5_w_0); (try clear k5_w_1_0 k5_w_1_1 k5_w_1_2 k5_w_1_3 f5_w_1); (try clear l5_w_1); (try clear k5_w_2_0 k5_w_2_1 k5_w_2_2 k5_w_2_3 f5_w_2); (try clear l5_w_2); (try clear k5_g2_6_0 k5_g2_6_1 f5_g2_6); (try clear l5_g2_6); (try clear k5_g2_7_0 k5_g2_7_1 f5_g2_7); (try clear l5_g2_7)))
      have H_C_6 := (hb6.block (w.heap.size) (blk_lt' H_C_5.out)).trans H_C_5.out
      clear k_C_5_0 k_C_5_1 f_C_5 H_C_5
      obtain ⟨k_C_6_0, k_C_6_1, f_C_6, l_C_6⟩ := bk2 H_C_6
      replace H_C_6 := Lib.hid H_C_6
      have H_O_6 := (hb6.block (w.heap.size + 1 + 1) (blk_lt' H_O_5.out)).trans H_O_5.out
      clear k_O_5_0 k_O_5_1 k_O_5_2 k_O_5_3 f_O_5 H_O_5
      obtain ⟨k_O_6_0, k_O_6_1, k_O_6_2, k_O_6_3, f_O_6, l_O_6⟩ := bk4 H_O_6
      replace H_O_6 := Lib.hid H_O_6
      have H_T_6 := (hb6.block (g2_6) (blk_lt' H_T_5.out)).trans H_T_5.out
      clear k_T_5_0 k_T_5_1 f_T_5 H_T_5
      obtain ⟨k_T_6_0, k_T_6_1, f_T_6, l_T_6⟩ := bk2 H_T_6
      replace H_T_6 := Lib.hid H_T_6
      have H_S_6 := (hb6.block (g2_7) (blk_lt' H_S_5.out)).trans H_S_5.out
      clear k_S_5_0 k_S_5_1 f_S_5 H_S_5
      obtain ⟨k_S_6_0, k_S_6_1, f_S_6, l_S_6⟩ := bk2 H_S_6
      replace H_S_6 := Lib.hid H_S_6
      replace ht5 := ht5.below hb6
      replace hs := hs.below hb6
      have hB6 : Below w.heap.size w w6 := below_via hb6 (by assumption) (by first | exact hB5.size | go_size)
      rw [et.out] at ht5
      rw [es.out] at hs6
      replace H_C_6 := H_C_6.out
      replace H_O_6 := H_O_6.out
      replace H_T_6 := H_T_6.out
      replace H_S_6 := H_S_6.out
      refine chk (fun W => Below w.heap.size w W ∧ W.heap[w.heap.size]? = some (.cells #[.int .i64 A, .int .i64 B] 33 (0, 0)) ∧ W.heap[w.heap.size + 1 + 1]? = some (.cells #[.bool false, .slice none 0 0, .bool false, .slice none 0 0] 37 (0, 0)) ∧ W.heap[g2_6]? = some (.cells #[.bool b5, .slice a5 n5 c5] 35 (0, 0)) ∧ W.heap[g2_7]? = some (.cells #[.bool b6, .slice a6 n6 c6] 35 (0, 0)) ∧ Wx W b5 a5 n5 c5 t1 ∧ Wx W b6 a6 n6 c6 s1) (by refine ⟨?_, ?_, ?_, ?_, ?_, ?_, ?_⟩ <;> (repeat' first | (with_reducible first | assumption | (apply Ne.symm; assumption) | apply Nat.le_refl | apply Nat.le_add_right | apply zL | apply zRf | apply Wx.box | apply Wx.box4 | apply zWa | apply Wx.drew | apply zWn | apply bx_drew | apply bx_drewN | apply bx_set3 | apply bx_set2 | apply bx_set4 | apply bx_set1) | ((with_reducible apply bx_new); (focus (go_size; done))) | (with_reducible first | apply zOl | apply zFa | apply zDn | apply zDr | apply zAl | apply zSt | refine zVi (by assumption) ?_ ?_) | go_size | omega)) ?_
      try clear ht5
      try clear hs6
      clear k_C_6_0 k_C_6_1 f_C_6 H_C_6
      clear k_O_6_0 k_O_6_1 k_O_6_2 k_O_6_3 f_O_6 H_O_6
      clear k_T_6_0 k_T_6_1 f_T_6 H_T_6
      clear k_S_6_0 k_S_6_1 f_S_6 H_S_6
      clear hB6
      rintro w7 ⟨hB7, H_C_7, H_O_7, H_T_7, H_S_7, ht5', hs6'⟩
      obtain ⟨k_C_7_0, k_C_7_1, f_C_7, l_C_7⟩ := bk2 H_C_7
      replace H_C_7 := Lib.hid H_C_7
      obtain ⟨k_O_7_0, k_O_7_1, k_O_7_2, k_O_7_3, f_O_7, l_O_7⟩ := bk4 H_O_7
      replace H_O_7 := Lib.hid H_O_7
      obtain ⟨k_T_7_0, k_T_7_1, f_T_7, l_T_7⟩ := bk2 H_T_7
      replace H_T_7 := Lib.hid H_T_7
      obtain ⟨k_S_7_0, k_S_7_1, f_S_7, l_S_7⟩ := bk2 H_S_7
      replace H_S_7 := Lib.hid H_S_7
      have ht5 := ht5'
      clear ht5'
      have hs6 := hs6'
      clear hs6'
      go_upto_region 8 with (first | (have _t := tok8; go_at_call 33; (with_reducible refine ((TD _ _ _ _ _ _ _ _ _ (ht5.below (by repeat' first | (with_reducible first | apply zRf | assumption | apply zDn | apply zDr | apply zAl | apply zSt | refine zVi (by assumption) ?_ ?_) | go_size)) (hs6.below (by repeat' first | (with_reducible first | apply zRf | assumption | apply zDn | apply zDr | apply zAl | apply zSt | refine zVi (by assumption) ?_ ?_) | go_size)))).mono ?_); rintro e w8 ⟨rfl, hb8⟩; clear tok8 _t; have hz8 := hb8.size; (try simp only [World.size_alloc, World.size_setCell, World.size_drew, World.size_drewN'] at hz8); (try (have kq := cellAt hb8 (w.heap.size) (by go_size); have k8_w_0_0 := kq 0; have k8_w_0_1 := kq 1; clear kq; have f8_w_0 := frozAt hb8 (w.heap.size) (by go_size); simp [go_sem, *] at k8_w_0_0 k8_w_0_1 f8_w_0)); (try have l8_w_0 : w.heap.size < w8.heap.size := by omega); (try (have kq := cellAt hb8 (w.heap.size + 1) (by go_size); have k8_w_1_0 := kq 0; have k8_w_1_1 := kq 1; have k8_w_1_2 := kq 2; have k8_w_1_3 := kq 3; clear kq; have f8_w_1 := frozAt hb8 (w.heap.size + 1) (by go_size); simp [go_sem, *] at k8_w_1_0 k8_w_1_1 k8_w_1_2 k8_w_1_3 f8_w_1)); (try have l8_w_1 : w.heap.size + 1 < w8.heap.size := by omega); (try (have kq := cellAt hb8 (w.heap.size + 1 + 1) (by go_size); have k8_w_2_0 := kq 0; have k8_w_2_1 := kq 1; have k8_w_2_2 := kq 2; have k8_w_2_3 := kq 3; clear kq; have f8_w_2 := frozAt hb8 (w.heap.size + 1 + 1) (by go_size); simp [go_sem, *] at k8_w_2_0 k8_w_2_1 k8_w_2_2 k8_w_2_3 f8_w_2)); (try have l8_w_2 : w.heap.size + 1 + 1 < w8.heap.size := by omega); (try (have kq := cellAt hb8 (g2_6) (by go_size); have k8_g2_6_0 := kq 0; have k8_g2_6_1 := kq 1; clear kq; have f8_g2_6 := frozAt hb8 (g2_6) (by go_size); simp [go_sem, *] at k8_g2_6_0 k8_g2_6_1 f8_g2_6)); (try have l8_g2_6 : g2_6 < w8.heap.size := by omega); (try (have kq := cellAt hb8 (g2_7) (by go_size); have k8_g2_7_0 := kq 0; have k8_g2_7_1 := kq 1; clear kq; have f8_g2_7 := frozAt hb8 (g2_7) (by go_size); simp [go_sem, *] at k8_g2_7_0 k8_g2_7_1 f8_g2_7)); (try have l8_g2_7 : g2_7 < w8.heap.size := by omega); (try clear k4_w_0_0 k4_w_0_1 f4_w_0); (try clear l4_w_0); (try clear k4_w_1_0 k4_w_1_1 k4_w_1_2 k4_w_1_3 f4_w_1); (try clear l4_w_1); (try clear k4_w_2_0 k4_w_2_1 k4_w_2_2 k4_w_2_3 f4_w_2); (try clear l4_w_2); (try clear k4_g2_6_0 k4_g2_6_1 f4_g2_6); (try clear l4_g2_6); (try clear k4_g2_7_0 k4_g2_7_1 f4_g2_7); (try clear l4_g2_7); (try clear k5_w_0_0 k5_w_0_1 f5_w_0); (try clear l5_w_0); (try clear k5_w_1_0 k5_w_1_1 k5_w_1_2 k5_w_1_3 f5_w_1); (try clear l5_w_1); (try clear k5_w_2_0 k5_w_2_1 k5_w_2_2 k5_w_2_3 f5_w_2); (try clear l5_w_2); (try clear k5_g2_6_0 k5_g2_6_1 f5_g2_6); (try clear l5_g2_6); (try clear k5_g2_7_0 k5_g2_7_1 f5_g2_7); (try clear l5_g2_7); (try clear k6_w_0_0 k6_w_0_1 f6_w_0); (try clear l6_w_0); (try clear k6_w_1_0 k6_w_1_1 k6_w_1_2 k6_w_1_3 f6_w_1); (try clear l6_w_1); (try clear k6_w_2_0 k6_w_2_1 k6_w_2_2 k6_w_2_3 f6_w_2); (try clear l6_w_2); (try clear k6_g2_6_0 k6_g2_6_1 f6_g2_6); (try clear l6_g2_6); (try clear k6_g2_7_0 k6_g2_7_1 f6_g2_7); (try clear l6_g2_7); (try clear k7_w_0_0 k7_w_0_1 f7_w_0); (try clear l7_w_0); (try clear k7_w_1_0 k7_w_1_1 k7_w_1_2 k7_w_1_3 f7_w_1); (try clear l7_w_1); (try clear k7_w_2_0 k7_w_2_1 k7_w_2_2 k7_w_2_3 f7_w_2); (try clear l7_w_2); (try clear k7_g2_6_0 k7_g2_6_1 f7_g2_6); (try clear l7_g2_6); (try clear k7_g2_7_0 k7_g2_7_1 f7_g2_7); (try clear l7_g2_7)))
      have H_C_8 := (hb8.block (w.heap.size) (blk_lt' H_C_7.out)).trans H_C_7.out
      clear k_C_7_0 k_C_7_1 f_C_7 H_C_7
      obtain ⟨k_C_8_0, k_C_8_1, f_C_8, l_C_8⟩ := bk2 H_C_8
      replace H_C_8 := Lib.hid H_C_8
      have H_O_8 := (hb8.block (w.heap.size + 1 + 1) (blk_lt' H_O_7.out)).trans H_O_7.out
      clear k_O_7_0 k_O_7_1 k_O_7_2 k_O_7_3 f_O_7 H_O_7
      obtain ⟨k_O_8_0, k_O_8_1, k_O_8_2, k_O_8_3, f_O_8, l_O_8⟩ := bk4 H_O_8
      replace H_O_8 := Lib.hid H_O_8
      have H_T_8 := (hb8.block (g2_6) (blk_lt' H_T_7.out)).trans H_T_7.out
      clear k_T_7_0 k_T_7_1 f_T_7 H_T_7
      obtain ⟨k_T_8_0, k_T_8_1, f_T_8, l_T_8⟩ := bk2 H_T_8
      replace H_T_8 := Lib.hid H_T_8
      have H_S_8 := (hb8.block (g2_7) (blk_lt' H_S_7.out)).trans H_S_7.out
      clear k_S_7_0 k_S_7_1 f_S_7 H_S_7
      obtain ⟨k_S_8_0, k_S_8_1, f_S_8, l_S_8⟩ := bk2 H_S_8
      replace H_S_8 := Lib.hid H_S_8
      replace ht5 := ht5.below hb8
      replace hs6 := hs6.below hb8
      have hB8 : Below w.heap.size w w8 := below_via hb8 (by assumption) (by first | exact hB7.size | go_size)
      go_upto_region 9 with (first | (have _t := tok9; go_at_call 34; (with_reducible refine ((TO1 _ _ _ _ _ (ht5.below (by repeat' first | (with_reducible first | apply zRf | assumption | apply zDn | apply zDr | apply zAl | apply zSt | refine zVi (by assumption) ?_ ?_) | go_size)))).mono ?_); rintro e w9 ⟨b9, a9, n9, c9, r9, rfl, hp9, f9, hb9⟩; clear tok9 _t; have hz9 := hb9.size; (try simp only [World.size_alloc, World.size_setCell, World.size_drew, World.size_drewN'] at hz9); (try (have kq := cellAt hb9 (w.heap.size) (by go_size); have k9_w_0_0 := kq 0; have k9_w_0_1 := kq 1; clear kq; have f9_w_0 := frozAt hb9 (w.heap.size) (by go_size); simp [go_sem, *] at k9_w_0_0 k9_w_0_1 f9_w_0)); (try have l9_w_0 : w.heap.size < w9.heap.size := by omega); (try (have kq := cellAt hb9 (w.heap.size + 1) (by go_size); have k9_w_1_0 := kq 0; have k9_w_1_1 := kq 1; have k9_w_1_2 := kq 2; have k9_w_1_3 := kq 3; clear kq; have f9_w_1 := frozAt hb9 (w.heap.size + 1) (by go_size); simp [go_sem, *] at k9_w_1_0 k9_w_1_1 k9_w_1_2 k9_w_1_3 f9_w_1)); (try have l9_w_1 : w.heap.size + 1 < w9.heap.size := by omega); (try (have kq := cellAt hb9 (w.heap.size + 1 + 1) (by go_size); have k9_w_2_0 := kq 0; have k9_w_2_1 := kq 1; have k9_w_2_2 := kq 2; have k9_w_2_3 := kq 3; clear kq; have f9_w_2 := frozAt hb9 (w.heap.size + 1 + 1) (by go_size); simp [go_sem, *] at k9_w_2_0 k9_w_2_1 k9_w_2_2 k9_w_2_3 f9_w_2)); (try have l9_w_2 : w.heap.size + 1 + 1 < w9.heap.size := by omega); (try (have kq := cellAt hb9 (g2_6) (by go_size); have k9_g2_6_0 := kq 0; have k9_g2_6_1 := kq 1; clear kq; have f9_g2_6 := frozAt hb9 (g2_6) (by go_size); simp [go_sem, *] at k9_g2_6_0 k9_g2_6_1 f9_g2_6)); (try have l9_g2_6 : g2_6 < w9.heap.size := by omega); (try (have kq := cellAt hb9 (g2_7) (by go_size); have k9_g2_7_0 := kq 0; have k9_g2_7_1 := kq 1; clear kq; have f9_g2_7 := frozAt hb9 (g2_7) (by go_size); simp [go_sem, *] at k9_g2_7_0 k9_g2_7_1 f9_g2_7)); (try have l9_g2_7 : g2_7 < w9.heap.size := by omega); (try clear k5_w_0_0 k5_w_0_1 f5_w_0); (try clear l5_w_0); (try clear k5_w_1_0 k5_w_1_1 k5_w_1_2 k5_w_1_3 f5_w_1); (try clear l5_w_1); (try clear k5_w_2_0 k5_w_2_1 k5_w_2_2 k5_w_2_3 f5_w_2); (try clear l5_w_2); (try clear k5_g2_6_0 k5_g2_6_1 f5_g2_6); (try clear l5_g2_6); (try clear k5_g2_7_0 k5_g2_7_1 f5_g2_7); (try clear l5_g2_7); (try clear k6_w_0_0 k6_w_0_1 f6_w_0); (try clear l6_w_0); (try clear k6_w_1_0 k6_w_1_1 k6_w_1_2 k6_w_1_3 f6_w_1); (try clear l6_w_1); (try clear k6_w_2_0 k6_w_2_1 k6_w_2_2 k6_w_2_3 f6_w_2); (try clear l6_w_2); (try clear k6_g2_6_0 k6_g2_6_1 f6_g2_6); (try clear l6_g2_6); (try clear k6_g2_7_0 k6_g2_7_1 f6_g2_7); (try clear l6_g2_7); (try clear k7_w_0_0 k7_w_0_1 f7_w_0); (try clear l7_w_0); (try clear k7_w_1_0 k7_w_1_1 k7_w_1_2 k7_w_1_3 f7_w_1); (try clear l7_w_1); (try clear k7_w_2_0 k7_w_2_1 k7_w_2_2 k7_w_2_3 f7_w_2); (try clear l7_w_2); (try clear k7_g2_6_0 k7_g2_6_1 f7_g2_6); (try clear l7_g2_6); (try clear k7_g2_7_0 k7_g2_7_1 f7_g2_7); (try clear l7_g2_7); (try clear k8_w_0_0 k8_w_0_1 f8_w_0); (try clear l8_w_0); (try clear k8_w_1_0 k8_w_1_1 k8_w_1_2 k8_w_1_3 f8_w_1); (try clear l8_w_1); (try clear k8_w_2_0 k8_w_2_1 k8_w_2_2 k8_w_2_3 f8_w_2); (try clear l8_w_2); (try clear k8_g2_6_0 k8_g2_6_1 f8_g2_6); (try clear l8_g2_6); (try clear k8_g2_7_0 k8_g2_7_1 f8_g2_7); (try clear l8_g2_7)))
      have H_C_9 := (hb9.block (w.heap.size) (blk_lt' H_C_8.out)).trans H_C_8.out
      clear k_C_8_0 k_C_8_1 f_C_8 H_C_8
      obtain ⟨k_C_9_0, k_C_9_1, f_C_9, l_C_9⟩ := bk2 H_C_9
      replace H_C_9 := Lib.hid H_C_9
      have H_O_9 := (hb9.block (w.heap.size + 1 + 1) (blk_lt' H_O_8.out)).trans H_O_8.out
      clear k_O_8_0 k_O_8_1 k_O_8_2 k_O_8_3 f_O_8 H_O_8
      obtain ⟨k_O_9_0, k_O_9_1, k_O_9_2, k_O_9_3, f_O_9, l_O_9⟩ := bk4 H_O_9
      replace H_O_9 := Lib.hid H_O_9
      have H_T_9 := (hb9.block (g2_6) (blk_lt' H_T_8.out)).trans H_T_8.out
      clear k_T_8_0 k_T_8_1 f_T_8 H_T_8
      obtain ⟨k_T_9_0, k_T_9_1, f_T_9, l_T_9⟩ := bk2 H_T_9
      replace H_T_9 := Lib.hid H_T_9
      have H_S_9 := (hb9.block (g2_7) (blk_lt' H_S_8.out)).trans H_S_8.out
      clear k_S_8_0 k_S_8_1 f_S_8 H_S_8
      obtain ⟨k_S_9_0, k_S_9_1, f_S_9, l_S_9⟩ := bk2 H_S_9
      replace H_S_9 := Lib.hid H_S_9
      replace ht5 := ht5.below hb9
      replace hs6 := hs6.below hb9
      have hB9 : Below w.heap.size w w9 := below_via hb9 (by assumption) (by first | exact hB8.size | go_size)
      have F9 : Fr w.heap.size a9 := f9.mono (by have := hB8.size; first | omega | go_size)
      clear f9
      replace H_C_9 := H_C_9.out
      replace H_O_9 := H_O_9.out
      replace H_T_9 := H_T_9.out
      replace H_S_9 := H_S_9.out
      refine chk (fun W => Below w.heap.size w W ∧ W.heap[w.heap.size + 1 + 1]? = some (.cells #[.bool false, .slice none 0 0, .bool false, .slice none 0 0] 37 (0, 0)) ∧ W.heap[g2_7]? = some (.cells #[.bool b6, .slice a6 n6 c6] 35 (0, 0)) ∧ W.heap[w9.heap.size]? = some (.cells #[.bool b9, .slice a9 n9 c9] 35 (0, 0)) ∧ Wx W b6 a6 n6 c6 s1 ∧ Wx W b9 a9 n9 c9 p) (by refine ⟨?_, ?_, ?_, ?_, ?_, ?_⟩ <;> (repeat' first | (with_reducible first | assumption | (apply Ne.symm; assumption) | apply Nat.le_refl | apply Nat.le_add_right | apply zL | apply zRf | apply Wx.box | apply Wx.box4 | apply zWa | apply Wx.drew | apply zWn | apply bx_drew | apply bx_drewN | apply bx_set3 | apply bx_set2 | apply bx_set4 | apply bx_set1) | ((with_reducible apply bx_new); (focus (go_size; done))) | (with_reducible first | apply zOl | apply zFa | apply zDn | apply zDr | apply zAl | apply zSt | refine zVi (by assumption) ?_ ?_) | go_size | omega)) ?_
      try clear hs6
      try clear hp9
      clear k_C_9_0 k_C_9_1 f_C_9 H_C_9
      clear k_O_9_0 k_O_9_1 k_O_9_2 k_O_9_3 f_O_9 H_O_9
      clear k_T_9_0 k_T_9_1 f_T_9 H_T_9
      clear k_S_9_0 k_S_9_1 f_S_9 H_S_9
      clear hB9
      rintro w10 ⟨hB10, H_O_10, H_S_10, H_P_10, hs6', hp9'⟩
      obtain ⟨k_O_10_0, k_O_10_1, k_O_10_2, k_O_10_3, f_O_10, l_O_10⟩ := bk4 H_O_10
      replace H_O_10 := Lib.hid H_O_10
      obtain ⟨k_S_10_0, k_S_10_1, f_S_10, l_S_10⟩ := bk2 H_S_10
      replace H_S_10 := Lib.hid H_S_10
      obtain ⟨k_P_10_0, k_P_10_1, f_P_10, l_P_10⟩ := bk2 H_P_10
      replace H_P_10 := Lib.hid H_P_10
      have hs6 := hs6'
      clear hs6'
      have hp9 := hp9'
      clear hp9'
      go_upto_region 10 with (first | (have _t := tok11; go_at_call 34; (with_reducible refine ((TO2 _ _ _ _ _ (hs6.below (by repeat' first | (with_reducible first | apply zRf | assumption | apply zDn | apply zDr | apply zAl | apply zSt | refine zVi (by assumption) ?_ ?_) | go_size)))).mono ?_); rintro e w11 ⟨b11, a11, n11, c11, r11, rfl, hq11, f11, hb11⟩; clear tok11 _t; have hz11 := hb11.size; (try simp only [World.size_alloc, World.size_setCell, World.size_drew, World.size_drewN'] at hz11); (try (have kq := cellAt hb11 (w.heap.size) (by go_size); have k11_w_0_0 := kq 0; have k11_w_0_1 := kq 1; clear kq; have f11_w_0 := frozAt hb11 (w.heap.size) (by go_size); simp [go_sem, *] at k11_w_0_0 k11_w_0_1 f11_w_0)); (try have l11_w_0 : w.heap.size < w11.heap.size := by omega); (try (have kq := cellAt hb11 (w.heap.size + 1) (by go_size); have k11_w_1_0 := kq 0; have k11_w_1_1 := kq 1; have k11_w_1_2 := kq 2; have k11_w_1_3 := kq 3; clear kq; have f11_w_1 := frozAt hb11 (w.heap.size + 1) (by go_size); simp [go_sem, *] at k11_w_1_0 k11_w_1_1 k11_w_1_2 k11_w_1_3 f11_w_1)); (try have l11_w_1 : w.heap.size + 1 < w11.heap.size := by omega); (try (have kq := cellAt hb11 (w.heap.size + 1 + 1) (by go_size); have k11_w_2_0 := kq 0; have k11_w_2_1 := kq 1; have k11_w_2_2 := kq 2; have k11_w_2_3 := kq 3; clear kq; have f11_w_2 := frozAt hb11 (w.heap.size + 1 + 1) (by go_size); simp [go_sem, *] at k11_w_2_0 k11_w_2_1 k11_w_2_2 k11_w_2_3 f11_w_2)); (try have l11_w_2 : w.heap.size + 1 + 1 < w11.heap.size := by omega); (try (have kq := cellAt hb11 (g2_7) (by go_size); have k11_g2_7_0 := kq 0; have k11_g2_7_1 := kq 1; clear kq; have f11_g2_7 := frozAt hb11 (g2_7) (by go_size); simp [go_sem, *] at k11_g2_7_0 k11_g2_7_1 f11_g2_7)); (try have l11_g2_7 : g2_7 < w11.heap.size := by omega); (try clear k7_w_0_0 k7_w_0_1 f7_w_0); (try clear l7_w_0); (try clear k7_w_1_0 k7_w_1_1 k7_w_1_2 k7_w_1_3 f7_w_1); (try clear l7_w_1); (try clear k7_w_2_0 k7_w_2_1 k7_w_2_2 k7_w_2_3 f7_w_2); (try clear l7_w_2); (try clear k7_g2_7_0 k7_g2_7_1 f7_g2_7); (try clear l7_g2_7); (try clear k8_w_0_0 k8_w_0_1 f8_w_0); (try clear l8_w_0); (try clear k8_w_1_0 k8_w_1_1 k8_w_1_2 k8_w_1_3 f8_w_1); (try clear l8_w_1); (try clear k8_w_2_0 k8_w_2_1 k8_w_2_2 k8_w_2_3 f8_w_2); (try clear l8_w_2); (try clear k8_g2_7_0 k8_g2_7_1 f8_g2_7); (try clear l8_g2_7); (try clear k9_w_0_0 k9_w_0_1 f9_w_0); (try clear l9_w_0); (try clear k9_w_1_0 k9_w_1_1 k9_w_1_2 k9_w_1_3 f9_w_1); (try clear l9_w_1); (try clear k9_w_2_0 k9_w_2_1 k9_w_2_2 k9_w_2_3 f9_w_2); (try clear l9_w_2); (try clear k9_g2_7_0 k9_g2_7_1 f9_g2_7); (try clear l9_g2_7); (try clear k10_w_0_0 k10_w_0_1 f10_w_0); (try clear l10_w_0); (try clear k10_w_1_0 k10_w_1_1 k10_w_1_2 k10_w_1_3 f10_w_1); (try clear l10_w_1); (try clear k10_w_2_0 k10_w_2_1 k10_w_2_2 k10_w_2_3 f10_w_2); (try clear l10_w_2); (try clear k10_g2_7_0 k10_g2_7_1 f10_g2_7); (try clear l10_g2_7)))
      have H_O_11 := (hb11.block (w.heap.size + 1 + 1) (blk_lt' H_O_10.out)).trans H_O_10.out
      clear k_O_10_0 k_O_10_1 k_O_10_2 k_O_10_3 f_O_10 H_O_10
      obtain ⟨k_O_11_0, k_O_11_1, k_O_11_2, k_O_11_3, f_O_11, l_O_11⟩ := bk4 H_O_11
      replace H_O_11 := Lib.hid H_O_11
      have H_S_11 := (hb11.block (g2_7) (blk_lt' H_S_10.out)).trans H_S_10.out
      clear k_S_10_0 k_S_10_1 f_S_10 H_S_10
      obtain ⟨k_S_11_0, k_S_11_1, f_S_11, l_S_11⟩ := bk2 H_S_11
      replace H_S_11 := Lib.hid H_S_11
      have H_P_11 := (hb11.block (w9.heap.size) (blk_lt' H_P_10.out)).trans H_P_10.out
      clear k_P_10_0 k_P_10_1 f_P_10 H_P_10
      obtain ⟨k_P_11_0, k_P_11_1, f_P_11, l_P_11⟩ := bk2 H_P_11
      replace H_P_11 := Lib.hid H_P_11
      replace hs6 := hs6.below hb11
      replace hp9 := hp9.below hb11
      have hB11 : Below w.heap.size w w11 := below_via hb11 (by assumption) (by first | exact hB10.size | go_size)
      have F11 : Fr w.heap.size a11 := f11.mono (by have := hB10.size; first | omega | go_size)
      clear f11
      replace H_O_11 := H_O_11.out
      replace H_S_11 := H_S_11.out
      replace H_P_11 := H_P_11.out
      refine chk (fun W => Below w.heap.size w W ∧ W.heap[w.heap.size + 1 + 1]? = some (.cells #[.bool false, .slice none 0 0, .bool false, .slice none 0 0] 37 (0, 0)) ∧ W.heap[w9.heap.size]? = some (.cells #[.bool b9, .slice a9 n9 c9] 35 (0, 0)) ∧ W.heap[w11.heap.size]? = some (.cells #[.bool b11, .slice a11 n11 c11] 35 (0, 0)) ∧ Wx W b9 a9 n9 c9 p ∧ Wx W b11 a11 n11 c11 q) (by refine ⟨?_, ?_, ?_, ?_, ?_, ?_⟩ <;> (repeat' first | (with_reducible first | assumption | (apply Ne.symm; assumption) | apply Nat.le_refl | apply Nat.le_add_right | apply zL | apply zRf | apply Wx.box | apply Wx.box4 | apply zWa | apply Wx.drew | apply zWn | apply bx_drew | apply bx_drewN | apply bx_set3 | apply bx_set2 | apply bx_set4 | apply bx_set1) | ((with_reducible apply bx_new); (focus (go_size; done))) | (with_reducible first | apply zOl | apply zFa | apply zDn | apply zDr | apply zAl | apply zSt | refine zVi (by assumption) ?_ ?_) | go_size | omega)) ?_
      try clear hp9
      try clear hq11
      clear k_O_11_0 k_O_11_1 k_O_11_2 k_O_11_3 f_O_11 H_O_11
      clear k_S_11_0 k_S_11_1 f_S_11 H_S_11
      clear k_P_11_0 k_P_11_1 f_P_11 H_P_11
      clear hB11
      rintro w12 ⟨hB12, H_O_12, H_P_12, H_Q_12, hp9', hq11'⟩
      obtain ⟨k_O_12_0, k_O_12_1, k_O_12_2, k_O_12_3, f_O_12, l_O_12⟩ := bk4 H_O_12
      replace H_O_12 := Lib.hid H_O_12
      obtain ⟨k_P_12_0, k_P_12_1, f_P_12, l_P_12⟩ := bk2 H_P_12
      replace H_P_12 := Lib.hid H_P_12
      obtain ⟨k_Q_12_0, k_Q_12_1, f_Q_12, l_Q_12⟩ := bk2 H_Q_12
      replace H_Q_12 := Lib.hid H_Q_12
      have hp9 := hp9'
      clear hp9'
      have hq11 := hq11'
      clear hq11'
      go_upto_region 11 with (fail)
      replace H_O_12 := H_O_12.out
      replace H_P_12 := H_P_12.out
      replace H_Q_12 := H_Q_12.out
      refine chk (fun W => Below w.heap.size w W ∧ W.heap[w.heap.size + 1 + 1]? = some (.cells #[.bool false, .slice none 0 0, .bool false, .slice none 0 0] 37 (0, 0)) ∧ W.heap[w12.heap.size]? = some (.cells #[.bool b9, .slice a9 n9 c9, .bool b11, .slice a11 n11 c11] 37 (0, 0)) ∧ Wx W b9 a9 n9 c9 p ∧ Wx W b11 a11 n11 c11 q) (by refine ⟨?_, ?_, ?_, ?_, ?_⟩ <;> (repeat' first | (with_reducible first | assumption | (apply Ne.symm; assumption) | apply Nat.le_refl | apply Nat.le_add_right | apply zL | apply zRf | apply Wx.box | apply Wx.box4 | apply zWa | apply Wx.drew | apply zWn | apply bx_drew | apply bx_drewN | apply bx_set3 | apply bx_set2 | apply bx_set4 | apply bx_set1) | ((with_reducible apply bx_new); (focus (go_size; done))) | (with_reducible first | apply zOl | apply zFa | apply zDn | apply zDr | apply zAl | apply zSt | refine zVi (by assumption) ?_ ?_) | go_size | omega)) ?_
      try clear hp9
      try clear hq11
      clear k_O_12_0 k_O_12_1 k_O_12_2 k_O_12_3 f_O_12 H_O_12
      clear k_P_12_0 k_P_12_1 f_P_12 H_P_12
      clear k_Q_12_0 k_Q_12_1 f_Q_12 H_Q_12
      clear hB12
      rintro w13 ⟨hB13, H_O_13, H_N_13, hp9', hq11'⟩
      obtain ⟨k_O_13_0, k_O_13_1, k_O_13_2, k_O_13_3, f_O_13, l_O_13⟩ := bk4 H_O_13
      replace H_O_13 := Lib.hid H_O_13
      obtain ⟨k_N_13_0, k_N_13_1, k_N_13_2, k_N_13_3, f_N_13, l_N_13⟩ := bk4 H_N_13
      replace H_N_13 := Lib.hid H_N_13
      have hp9 := hp9'
      clear hp9'
      have hq11 := hq11'
      clear hq11'
      rcases HRR.out with ⟨rfl, hd⟩ | ⟨rfl, hd⟩
      · subst hd
        clear HRR
        go_upto_region 13 with (first | (have _t := tok14; go_at_call 29; (with_reducible refine ((TG _ _ _ _ _ _ _ _ _ (hp9.below (by repeat' first | (with_reducible first | apply zRf | assumption | apply zDn | apply zDr | apply zAl | apply zSt | refine zVi (by assumption) ?_ ?_) | go_size)) (hq11.below (by repeat' first | (with_reducible first | apply zRf | assumption | apply zDn | apply zDr | apply zAl | apply zSt | refine zVi (by assumption) ?_ ?_) | go_size)))).mono ?_); rintro e w14 ⟨rfl, hb14⟩; clear tok14 _t; have hz14 := hb14.size; (try simp only [World.size_alloc, World.size_setCell, World.size_drew, World.size_drewN'] at hz14); (try (have kq := cellAt hb14 (w.heap.size) (by go_size); have k14_w_0_0 := kq 0; have k14_w_0_1 := kq 1; clear kq; have f14_w_0 := frozAt hb14 (w.heap.size) (by go_size); simp [go_sem, *] at k14_w_0_0 k14_w_0_1 f14_w_0)); (try have l14_w_0 : w.heap.size < w14.heap.size := by omega); (try (have kq := cellAt hb14 (w.heap.size + 1) (by go_size); have k14_w_1_0 := kq 0; have k14_w_1_1 := kq 1; have k14_w_1_2 := kq 2; have k14_w_1_3 := kq 3; clear kq; have f14_w_1 := frozAt hb14 (w.heap.size + 1) (by go_size); simp [go_sem, *] at k14_w_1_0 k14_w_1_1 k14_w_1_2 k14_w_1_3 f14_w_1)); (try have l14_w_1 : w.heap.size + 1 < w14.heap.size := by omega); (try (have kq := cellAt hb14 (w.heap.size + 1 + 1) (by go_size); have k14_w_2_0 := kq 0; have k14_w_2_1 := kq 1; have k14_w_2_2 := kq 2; have k14_w_2_3 := kq 3; clear kq; have f14_w_2 := frozAt hb14 (w.heap.size + 1 + 1) (by go_size); simp [go_sem, *] at k14_w_2_0 k14_w_2_1 k14_w_2_2 k14_w_2_3 f14_w_2)); (try have l14_w_2 : w.heap.size + 1 + 1 < w14.heap.size := by omega); (try (have kq := cellAt hb14 (w12.heap.size) (by go_size); have k14_w12_0_0 := kq 0; have k14_w12_0_1 := kq 1; have k14_w12_0_2 := kq 2; have k14_w12_0_3 := kq 3; clear kq; have f14_w12_0 := frozAt hb14 (w12.heap.size) (by go_size); simp [go_sem, *] at k14_w12_0_0 k14_w12_0_1 k14_w12_0_2 k14_w12_0_3 f14_w12_0)); (try have l14_w12_0 : w12.heap.size < w14.heap.size := by omega); (try clear k10_w_0_0 k10_w_0_1 f10_w_0); (try clear l10_w_0); (try clear k10_w_1_0 k10_w_1_1 k10_w_1_2 k10_w_1_3 f10_w_1); (try clear l10_w_1); (try clear k10_w_2_0 k10_w_2_1 k10_w_2_2 k10_w_2_3 f10_w_2); (try clear l10_w_2); (try clear k11_w_0_0 k11_w_0_1 f11_w_0); (try clear l11_w_0); (try clear k11_w_1_0 k11_w_1_1 k11_w_1_2 k11_w_1_3 f11_w_1); (try clear l11_w_1); (try clear k11_w_2_0 k11_w_2_1 k11_w_2_2 k11_w_2_3 f11_w_2); (try clear l11_w_2); (try clear k12_w_0_0 k12_w_0_1 f12_w_0); (try clear l12_w_0); (try clear k12_w_1_0 k12_w_1_1 k12_w_1_2 k12_w_1_3 f12_w_1); (try clear l12_w_1); (try clear k12_w_2_0 k12_w_2_1 k12_w_2_2 k12_w_2_3 f12_w_2); (try clear l12_w_2); (try clear k13_w_0_0 k13_w_0_1 f13_w_0); (try clear l13_w_0); (try clear k13_w_1_0 k13_w_1_1 k13_w_1_2 k13_w_1_3 f13_w_1); (try clear l13_w_1); (try clear k13_w_2_0 k13_w_2_1 k13_w_2_2 k13_w_2_3 f13_w_2); (try clear l13_w_2); (try clear k13_w12_0_0 k13_w12_0_1 k13_w12_0_2 k13_w12_0_3 f13_w12_0); (try clear l13_w12_0)))
        have H_O_14 := (hb14.block (w.heap.size + 1 + 1) (blk_lt' H_O_13.out)).trans H_O_13.out
        clear k_O_13_0 k_O_13_1 k_O_13_2 k_O_13_3 f_O_13 H_O_13
        obtain ⟨k_O_14_0, k_O_14_1, k_O_14_2, k_O_14_3, f_O_14, l_O_14⟩ := bk4 H_O_14
        replace H_O_14 := Lib.hid H_O_14
        have H_N_14 := (hb14.block (w12.heap.size) (blk_lt' H_N_13.out)).trans H_N_13.out
        clear k_N_13_0 k_N_13_1 k_N_13_2 k_N_13_3 f_N_13 H_N_13
        obtain ⟨k_N_14_0, k_N_14_1, k_N_14_2, k_N_14_3, f_N_14, l_N_14⟩ := bk4 H_N_14
        replace H_N_14 := Lib.hid H_N_14
        replace hp9 := hp9.below hb14
        replace hq11 := hq11.below hb14
        have hB14 : Below w.heap.size w w14 := below_via hb14 (by assumption) (by first | exact hB13.size | go_size)
        replace H_O_14 := H_O_14.out
        replace H_N_14 := H_N_14.out
        refine chk (fun W => Below w.heap.size w W ∧ W.heap[w.heap.size + 1 + 1]? = some (.cells #[.bool false, .slice none 0 0, .bool false, .slice none 0 0] 37 (0, 0)) ∧ W.heap[w12.heap.size]? = some (.cells #[.bool b9, .slice a9 n9 c9, .bool b11, .slice a11 n11 c11] 37 (0, 0)) ∧ Wx W b9 a9 n9 c9 p ∧ Wx W b11 a11 n11 c11 q) (by refine ⟨?_, ?_, ?_, ?_, ?_⟩ <;> (repeat' first | (with_reducible first | assumption | (apply Ne.symm; assumption) | apply Nat.le_refl | apply Nat.le_add_right | apply zL | apply zRf | apply Wx.box | apply Wx.box4 | apply zWa | apply Wx.drew | apply zWn | apply bx_drew | apply bx_drewN | apply bx_set3 | apply bx_set2 | apply bx_set4 | apply bx_set1) | ((with_reducible apply bx_new); (focus (go_size; done))) | (with_reducible first | apply zOl | apply zFa | apply zDn | apply zDr | apply zAl | apply zSt | refine zVi (by assumption) ?_ ?_) | go_size | omega)) ?_
        try clear hp9
        try clear hq11
        clear k_O_14_0 k_O_14_1 k_O_14_2 k_O_14_3 f_O_14 H_O_14
        clear k_N_14_0 k_N_14_1 k_N_14_2 k_N_14_3 f_N_14 H_N_14
        clear hB14
        rintro w15 ⟨hB15, H_O_15, H_N_15, hp9', hq11'⟩
        obtain ⟨k_O_15_0, k_O_15_1, k_O_15_2, k_O_15_3, f_O_15, l_O_15⟩ := bk4 H_O_15
        replace H_O_15 := Lib.hid H_O_15
        obtain ⟨k_N_15_0, k_N_15_1, k_N_15_2, k_N_15_3, f_N_15, l_N_15⟩ := bk4 H_N_15
        replace H_N_15 := Lib.hid H_N_15
        have hp9 := hp9'
        clear hp9'
        have hq11 := hq11'
        clear hq11'
        clear TO1 TO2 TD TG lt1 ls1 hA hBB
        have hON : w.heap.size + 1 + 1 ≠ w12.heap.size := by omega
        iterate 24 (first | (with_reducible show bodyPost _ _ _ _ _ _) | (with_reducible refine wp_ret ?_) | go_values | go_skip | go_guarded | go_step | go_upon | go_back | skip)
        refine bodyPost_ret (v := .tuple #[.agg #[.bool b9, .slice a9 n9 c9, .bool b11, .slice a11 n11 c11], .bool true]) (by simp [results, Try.results17, go_sem, k_O_15_0, k_O_15_1, k_O_15_2, k_O_15_3]) rfl ⟨_, _, _, _, _, _, _, _, rfl, ?_, ?_, F9, F11, ?_⟩
        all_goals (have HO := H_O_15.out)
        · (repeat' first | (with_reducible first | assumption | (apply Ne.symm; assumption) | apply Nat.le_refl | apply Nat.le_add_right | apply zL | apply zRf | apply Wx.box | apply Wx.box4 | apply zWa | apply Wx.drew | apply zWn | apply bx_drew | apply bx_drewN | apply bx_set3 | apply bx_set2 | apply bx_set4 | apply bx_set1) | ((with_reducible apply bx_new); (focus (go_size; done))) | (with_reducible first | apply zOl | apply zFa | apply zDn | apply zDr | apply zAl | apply zSt | refine zVi (by assumption) ?_ ?_) | go_size | omega)
        · (repeat' first | (with_reducible first | assumption | (apply Ne.symm; assumption) | apply Nat.le_refl | apply Nat.le_add_right | apply zL | apply zRf | apply Wx.box | apply Wx.box4 | apply zWa | apply Wx.drew | apply zWn | apply bx_drew | apply bx_drewN | apply bx_set3 | apply bx_set2 | apply bx_set4 | apply bx_set1) | ((with_reducible apply bx_new); (focus (go_size; done))) | (with_reducible first | apply zOl | apply zFa | apply zDn | apply zDr | apply zAl | apply zSt | refine zVi (by assumption) ?_ ?_) | go_size | omega)
        · (repeat' first | (with_reducible first | assumption | (apply Ne.symm; assumption) | apply Nat.le_refl | apply Nat.le_add_right | apply zL | apply zRf | apply Wx.box | apply Wx.box4 | apply zWa | apply Wx.drew | apply zWn | apply bx_drew | apply bx_drewN | apply bx_set3 | apply bx_set2 | apply bx_set4 | apply bx_set1) | ((with_reducible apply bx_new); (focus (go_size; done))) | (with_reducible first | apply zOl | apply zFa | apply zDn | apply zDr | apply zAl | apply zSt | refine zVi (by assumption) ?_ ?_) | go_size | omega)
      · subst hd
        clear HRR
        go_upto_region 12 with (first | (have _t := tok14; go_at_call 29; (with_reducible refine ((TG _ _ _ _ _ _ _ _ _ (hp9.below (by repeat' first | (with_reducible first | apply zRf | assumption | apply zDn | apply zDr | apply zAl | apply zSt | refine zVi (by assumption) ?_ ?_) | go_size)) (hq11.below (by repeat' first | (with_reducible first | apply zRf | assumption | apply zDn | apply zDr | apply zAl | apply zSt | refine zVi (by assumption) ?_ ?_) | go_size)))).mono ?_); rintro e w14 ⟨rfl, hb14⟩; clear tok14 _t; have hz14 := hb14.size; (try simp only [World.size_alloc, World.size_setCell, World.size_drew, World.size_drewN'] at hz14); (try (have kq := cellAt hb14 (w.heap.size) (by go_size); have k14_w_0_0 := kq 0; have k14_w_0_1 := kq 1; clear kq; have f14_w_0 := frozAt hb14 (w.heap.size) (by go_size); simp [go_sem, *] at k14_w_0_0 k14_w_0_1 f14_w_0)); (try have l14_w_0 : w.heap.size < w14.heap.size := by omega); (try (have kq := cellAt hb14 (w.heap.size + 1) (by go_size); have k14_w_1_0 := kq 0; have k14_w_1_1 := kq 1; have k14_w_1_2 := kq 2; have k14_w_1_3 := kq 3; clear kq; have f14_w_1 := frozAt hb14 (w.heap.size + 1) (by go_size); simp [go_sem, *] at k14_w_1_0 k14_w_1_1 k14_w_1_2 k14_w_1_3 f14_w_1)); (try have l14_w_1 : w.heap.size + 1 < w14.heap.size := by omega); (try (have kq := cellAt hb14 (w.heap.size + 1 + 1) (by go_size); have k14_w_2_0 := kq 0; have k14_w_2_1 := kq 1; have k14_w_2_2 := kq 2; have k14_w_2_3 := kq 3; clear kq; have f14_w_2 := frozAt hb14 (w.heap.size + 1 + 1) (by go_size); simp [go_sem, *] at k14_w_2_0 k14_w_2_1 k14_w_2_2 k14_w_2_3 f14_w_2)); (try have l14_w_2 : w.heap.size + 1 + 1 < w14.heap.size := by omega); (try (have kq := cellAt hb14 (w12.heap.size) (by go_size); have k14_w12_0_0 := kq 0; have k14_w12_0_1 := kq 1; have k14_w12_0_2 := kq 2; have k14_w12_0_3 := kq 3; clear kq; have f14_w12_0 := frozAt hb14 (w12.heap.size) (by go_size); simp [go_sem, *] at k14_w12_0_0 k14_w12_0_1 k14_w12_0_2 k14_w12_0_3 f14_w12_0)); (try have l14_w12_0 : w12.heap.size < w14.heap.size := by omega); (try clear k10_w_0_0 k10_w_0_1 f10_w_0); (try clear l10_w_0); (try clear k10_w_1_0 k10_w_1_1 k10_w_1_2 k10_w_1_3 f10_w_1); (try clear l10_w_1); (try clear k10_w_2_0 k10_w_2_1 k10_w_2_2 k10_w_2_3 f10_w_2); (try clear l10_w_2); (try clear k11_w_0_0 k11_w_0_1 f11_w_0); (try clear l11_w_0); (try clear k11_w_1_0 k11_w_1_1 k11_w_1_2 k11_w_1_3 f11_w_1); (try clear l11_w_1); (try clear k11_w_2_0 k11_w_2_1 k11_w_2_2 k11_w_2_3 f11_w_2); (try clear l11_w_2); (try clear k12_w_0_0 k12_w_0_1 f12_w_0); (try clear l12_w_0); (try clear k12_w_1_0 k12_w_1_1 k12_w_1_2 k12_w_1_3 f12_w_1); (try clear l12_w_1); (try clear k12_w_2_0 k12_w_2_1 k12_w_2_2 k12_w_2_3 f12_w_2); (try clear l12_w_2); (try clear k13_w_0_0 k13_w_0_1 f13_w_0); (try clear l13_w_0); (try clear k13_w_1_0 k13_w_1_1 k13_w_1_2 k13_w_1_3 f13_w_1); (try clear l13_w_1); (try clear k13_w_2_0 k13_w_2_1 k13_w_2_2 k13_w_2_3 f13_w_2); (try clear l13_w_2); (try clear k13_w12_0_0 k13_w12_0_1 k13_w12_0_2 k13_w12_0_3 f13_w12_0); (try clear l13_w12_0)))
        have H_O_14 := (hb14.block (w.heap.size + 1 + 1) (blk_lt' H_O_13.out)).trans H_O_13.out
        clear k_O_13_0 k_O_13_1 k_O_13_2 k_O_13_3 f_O_13 H_O_13
        obtain ⟨k_O_14_0, k_O_14_1, k_O_14_2, k_O_14_3, f_O_14, l_O_14⟩ := bk4 H_O_14
        replace H_O_14 := Lib.hid H_O_14
        have H_N_14 := (hb14.block (w12.heap.size) (blk_lt' H_N_13.out)).trans H_N_13.out
        clear k_N_13_0 k_N_13_1 k_N_13_2 k_N_13_3 f_N_13 H_N_13
        obtain ⟨k_N_14_0, k_N_14_1, k_N_14_2, k_N_14_3, f_N_14, l_N_14⟩ := bk4 H_N_14
        replace H_N_14 := Lib.hid H_N_14
        replace hp9 := hp9.below hb14
        replace hq11 := hq11.below hb14
        have hB14 : Below w.heap.size w w14 := below_via hb14 (by assumption) (by first | exact hB13.size | go_size)
        replace H_O_14 := H_O_14.out
        replace H_N_14 := H_N_14.out
        refine chk (fun W => Below w.heap.size w W ∧ W.heap[w.heap.size + 1 + 1]? = some (.cells #[.bool false, .slice none 0 0, .bool false, .slice none 0 0] 37 (0, 0))) (by refine ⟨?_, ?_⟩ <;> (repeat' first | (with_reducible first | assumption | (apply Ne.symm; assumption) | apply Nat.le_refl | apply Nat.le_add_right | apply zL | apply zRf | apply Wx.box | apply Wx.box4 | apply zWa | apply Wx.drew | apply zWn | apply bx_drew | apply bx_drewN | apply bx_set3 | apply bx_set2 | apply bx_set4 | apply bx_set1) | ((with_reducible apply bx_new); (focus (go_size; done))) | (with_reducible first | apply zOl | apply zFa | apply zDn | apply zDr | apply zAl | apply zSt | refine zVi (by assumption) ?_ ?_) | go_size | omega)) ?_
        clear k_O_14_0 k_O_14_1 k_O_14_2 k_O_14_3 f_O_14 H_O_14
        clear k_N_14_0 k_N_14_1 k_N_14_2 k_N_14_3 f_N_14 H_N_14
        clear hB14
        rintro w15 ⟨hB15, H_O_15⟩
        obtain ⟨k_O_15_0, k_O_15_1, k_O_15_2, k_O_15_3, f_O_15, l_O_15⟩ := bk4 H_O_15
        replace H_O_15 := Lib.hid H_O_15
        clear TO1 TO2 TD TG lt1 ls1 hA hBB
        iterate 24 (first | (with_reducible show bodyPost _ _ _ _ _ _) | (with_reducible refine wp_ret ?_) | go_values | go_skip | go_guarded | go_step | go_upon | go_back | skip)
        refine bodyPost_ret (v := .tuple #[.agg #[.bool false, .slice none 0 0, .bool false, .slice none 0 0], .bool false]) (by simp [results, Try.results17, go_sem, k_O_15_0, k_O_15_1, k_O_15_2, k_O_15_3]) rfl ⟨_, _, _, _, _, _, _, _, rfl, Wx.zero' _, Wx.zero' _, fr_none _, fr_none _, ?_⟩
        have HO := H_O_15.out
        (repeat' first | (with_reducible first | assumption | (apply Ne.symm; assumption) | apply Nat.le_refl | apply Nat.le_add_right | apply zL | apply zRf | apply Wx.box | apply Wx.box4 | apply zWa | apply Wx.drew | apply zWn | apply bx_drew | apply bx_drewN | apply bx_set3 | apply bx_set2 | apply bx_set4 | apply bx_set1) | ((with_reducible apply bx_new); (focus (go_size; done))) | (with_reducible first | apply zOl | apply zFa | apply zDn | apply zDr | apply zAl | apply zSt | refine zVi (by assumption) ?_ ?_) | go_size | omega)
    · skip
      have hb4f : b4 = false := by rw [hb4n.out]; simp [ngB, hneg]
      obtain rfl : t1 = t := by rw [← HT1.out]; simp [sgZ, hneg]
      obtain rfl : s1 = s := by rw [← HS1.out]; simp [sgZ, hneg]
      go_upto_region 7 with (fail)
      clear hb4f
      obtain ⟨b5, rfl⟩ : ∃ b, b = b3 := ⟨_, rfl⟩
      obtain ⟨a5, rfl⟩ : ∃ b, b = a3 := ⟨_, rfl⟩
      obtain ⟨n5, rfl⟩ : ∃ b, b = n3 := ⟨_, rfl⟩
      obtain ⟨c5, rfl⟩ : ∃ b, b = c3 := ⟨_, rfl⟩
      obtain ⟨b6, rfl⟩ : ∃ b, b = b4 := ⟨_, rfl⟩
      obtain ⟨a6, rfl⟩ : ∃ b, b = a4 := ⟨_, rfl⟩
      obtain ⟨n6, rfl⟩ : ∃ b, b = n4 := ⟨_, rfl⟩
      obtain ⟨c6, rfl⟩ : ∃ b, b = c4 := ⟨_, rfl⟩
      have ht5 := ht
      have hs6 := hs
      clear ht hs
      replace H_C_3 := H_C_3.out
      replace H_O_3 := H_O_3.out
      replace H_T_3 := H_T_3.out
      replace H_S_3 := H_S_3.out
      refine chk (fun W => Below w.heap.size w W ∧ W.heap[w.heap.size]? = some (.cells #[.int .i64 A, .int .i64 B] 33 (0, 0)) ∧ W.heap[w.heap.size + 1 + 1]? = some (.cells #[.bool false, .slice none 0 0, .bool false, .slice none 0 0] 37 (0, 0)) ∧ W.heap[g2_6]? = some (.cells #[.bool b5, .slice a5 n5 c5] 35 (0, 0)) ∧ W.heap[g2_7]? = some (.cells #[.bool b6, .slice a6 n6 c6] 35 (0, 0)) ∧ Wx W b5 a5 n5 c5 t1 ∧ Wx W b6 a6 n6 c6 s1) (by refine ⟨?_, ?_, ?_, ?_, ?_, ?_, ?_⟩ <;> (repeat' first | (with_reducible first | assumption | (apply Ne.symm; assumption) | apply Nat.le_refl | apply Nat.le_add_right | apply zL | apply zRf | apply Wx.box | apply Wx.box4 | apply zWa | apply Wx.drew | apply zWn | apply bx_drew | apply bx_drewN | apply bx_set3 | apply bx_set2 | apply bx_set4 | apply bx_set1) | ((with_reducible apply bx_new); (focus (go_size; done))) | (with_reducible first | apply zOl | apply zFa | apply zDn | apply zDr | apply zAl | apply zSt | refine zVi (by assumption) ?_ ?_) | go_size | omega)) ?_
      try clear ht5
      try clear hs6
      clear k_C_3_0 k_C_3_1 f_C_3 H_C_3
      clear k_O_3_0 k_O_3_1 k_O_3_2 k_O_3_3 f_O_3 H_O_3
      clear k_T_3_0 k_T_3_1 f_T_3 H_T_3
      clear k_S_3_0 k_S_3_1 f_S_3 H_S_3
      clear hB3
      rintro w7 ⟨hB7, H_C_7, H_O_7, H_T_7, H_S_7, ht5', hs6'⟩
      obtain ⟨k_C_7_0, k_C_7_1, f_C_7, l_C_7⟩ := bk2 H_C_7
      replace H_C_7 := Lib.hid H_C_7
      obtain ⟨k_O_7_0, k_O_7_1, k_O_7_2, k_O_7_3, f_O_7, l_O_7⟩ := bk4 H_O_7
      replace H_O_7 := Lib.hid H_O_7
      obtain ⟨k_T_7_0, k_T_7_1, f_T_7, l_T_7⟩ := bk2 H_T_7
      replace H_T_7 := Lib.hid H_T_7
      obtain ⟨k_S_7_0, k_S_7_1, f_S_7, l_S_7⟩ := bk2 H_S_7
      replace H_S_7 := Lib.hid H_S_7
      have ht5 := ht5'
      clear ht5'
      have hs6 := hs6'
      clear hs6'
      go_upto_region 8 with (first | (have _t := tok8; go_at_call 33; (with_reducible refine ((TD _ _ _ _ _ _ _ _ _ (ht5.below (by repeat' first | (with_reducible first | apply zRf | assumption | apply zDn | apply zDr | apply zAl | apply zSt | refine zVi (by assumption) ?_ ?_) | go_size)) (hs6.below (by repeat' first | (with_reducible first | apply zRf | assumption | apply zDn | apply zDr | apply zAl | apply zSt | refine zVi (by assumption) ?_ ?_) | go_size)))).mono ?_); rintro e w8 ⟨rfl, hb8⟩; clear tok8 _t; have hz8 := hb8.size; (try simp only [World.size_alloc, World.size_setCell, World.size_drew, World.size_drewN'] at hz8); (try (have kq := cellAt hb8 (w.heap.size) (by go_size); have k8_w_0_0 := kq 0; have k8_w_0_1 := kq 1; clear kq; have f8_w_0 := frozAt hb8 (w.heap.size) (by go_size); simp [go_sem, *] at k8_w_0_0 k8_w_0_1 f8_w_0)); (try have l8_w_0 : w.heap.size < w8.heap.size := by omega); (try (have kq := cellAt hb8 (w.heap.size + 1) (by go_size); have k8_w_1_0 := kq 0; have k8_w_1_1 := kq 1; have k8_w_1_2 := kq 2; have k8_w_1_3 := kq 3; clear kq; have f8_w_1 := frozAt hb8 (w.heap.size + 1) (by go_size); simp [go_sem, *] at k8_w_1_0 k8_w_1_1 k8_w_1_2 k8_w_1_3 f8_w_1)); (try have l8_w_1 : w.heap.size + 1 < w8.heap.size := by omega); (try (have kq := cellAt hb8 (w.heap.size + 1 + 1) (by go_size); have k8_w_2_0 := kq 0; have k8_w_2_1 := kq 1; have k8_w_2_2 := kq 2; have k8_w_2_3 := kq 3; clear kq; have f8_w_2 := frozAt hb8 (w.heap.size + 1 + 1) (by go_size); simp [go_sem, *] at k8_w_2_0 k8_w_2_1 k8_w_2_2 k8_w_2_3 f8_w_2)); (try have l8_w_2 : w.heap.size + 1 + 1 < w8.heap.size := by omega); (try (have kq := cellAt hb8 (g2_6) (by go_size); have k8_g2_6_0 := kq 0; have k8_g2_6_1 := kq 1; clear kq; have f8_g2_6 := frozAt hb8 (g2_6) (by go_size); simp [go_sem, *] at k8_g2_6_0 k8_g2_6_1 f8_g2_6)); (try have l8_g2_6 : g2_6 < w8.heap.size := by omega); (try (have kq := cellAt hb8 (g2_7) (by go_size); have k8_g2_7_0 := kq 0; have k8_g2_7_1 := kq 1; clear kq; have f8_g2_7 := frozAt hb8 (g2_7) (by go_size); simp [go_sem, *] at k8_g2_7_0 k8_g2_7_1 f8_g2_7)); (try have l8_g2_7 : g2_7 < w8.heap.size := by omega); (try clear k4_w_0_0 k4_w_0_1 f4_w_0); (try clear l4_w_0); (try clear k4_w_1_0 k4_w_1_1 k4_w_1_2 k4_w_1_3 f4_w_1); (try clear l4_w_1); (try clear k4_w_2_0 k4_w_2_1 k4_w_2_2 k4_w_2_3 f4_w_2); (try clear l4_w_2); (try clear k4_g2_6_0 k4_g2_6_1 f4_g2_6); (try clear l4_g2_6); (try clear k4_g2_7_0 k4_g2_7_1 f4_g2_7); (try clear l4_g2_7); (try clear k5_w_0_0 k5_w_0_1 f5_w_0); (try clear l5_w_0); (try clear k5_w_1_0 k5_w_1_1 k5_w_1_2 k5_w_1_3 f5_w_1); (try clear l5_w_1); (try clear k5_w_2_0 k5_w_2_1 k5_w_2_2 k5_w_2_3 f5_w_2); (try clear l5_w_2); (try clear k5_g2_6_0 k5_g2_6_1 f5_g2_6); (try clear l5_g2_6); (try clear k5_g2_7_0 k5_g2_7_1 f5_g2_7); (try clear l5_g2_7); (try clear k6_w_0_0 k6_w_0_1 f6_w_0); (try clear l6_w_0); (try clear k6_w_1_0 k6_w_1_1 k6_w_1_2 k6_w_1_3 f6_w_1); (try clear l6_w_1); (try clear k6_w_2_0 k6_w_2_1 k6_w_2_2 k6_w_2_3 f6_w_2); (try clear l6_w_2); (try clear k6_g2_6_0 k6_g2_6_1 f6_g2_6); (try clear l6_g2_6); (try clear k6_g2_7_0 k6_g2_7_1 f6_g2_7); (try clear l6_g2_7); (try clear k7_w_0_0 k7_w_0_1 f7_w_0); (try clear l7_w_0); (try clear k7_w_1_0 k7_w_1_1 k7_w_1_2 k7_w_1_3 f7_w_1); (try clear l7_w_1); (try clear k7_w_2_0 k7_w_2_1 k7_w_2_2 k7_w_2_3 f7_w_2); (try clear l7_w_2); (try clear k7_g2_6_0 k7_g2_6_1 f7_g2_6); (try clear l7_g2_6); (try clear k7_g2_7_0 k7_g2_7_1 f7_g2_7); (try clear l7_g2_7)))
      have H_C_8 := (hb8.block (w.heap.size) (blk_lt' H_C_7.out)).trans H_C_7.out
      clear k_C_7_0 k_C_7_1 f_C_7 H_C_7
      obtain ⟨k_C_8_0, k_C_8_1, f_C_8, l_C_8⟩ := bk2 H_C_8
      replace H_C_8 := Lib.hid H_C_8
      have H_O_8 := (hb8.block (w.heap.size + 1 + 1) (blk_lt' H_O_7.out)).trans H_O_7.out
      clear k_O_7_0 k_O_7_1 k_O_7_2 k_O_7_3 f_O_7 H_O_7
      obtain ⟨k_O_8_0, k_O_8_1, k_O_8_2, k_O_8_3, f_O_8, l_O_8⟩ := bk4 H_O_8
      replace H_O_8 := Lib.hid H_O_8
      have H_T_8 := (hb8.block (g2_6) (blk_lt' H_T_7.out)).trans H_T_7.out
      clear k_T_7_0 k_T_7_1 f_T_7 H_T_7
      obtain ⟨k_T_8_0, k_T_8_1, f_T_8, l_T_8⟩ := bk2 H_T_8
      replace H_T_8 := Lib.hid H_T_8
      have H_S_8 := (hb8.block (g2_7) (blk_lt' H_S_7.out)).trans H_S_7.out
      clear k_S_7_0 k_S_7_1 f_S_7 H_S_7
      obtain ⟨k_S_8_0, k_S_8_1, f_S_8, l_S_8⟩ := bk2 H_S_8
      replace H_S_8 := Lib.hid H_S_8
      replace ht5 := ht5.below hb8
      replace hs6 := hs6.below hb8
      have hB8 : Below w.heap.size w w8 := below_via hb8 (by assumption) (by first | exact hB7.size | go_size)
      go_upto_region 9 with (first | (have _t := tok9; go_at_call 34; (with_reducible refine ((TO1 _ _ _ _ _ (ht5.below (by repeat' first | (with_reducible first | apply zRf | assumption | apply zDn | apply zDr | apply zAl | apply zSt | refine zVi (by assumption) ?_ ?_) | go_size)))).mono ?_); rintro e w9 ⟨b9, a9, n9, c9, r9, rfl, hp9, f9, hb9⟩; clear tok9 _t; have hz9 := hb9.size; (try simp only [World.size_alloc, World.size_setCell, World.size_drew, World.size_drewN'] at hz9); (try (have kq := cellAt hb9 (w.heap.size) (by go_size); have k9_w_0_0 := kq 0; have k9_w_0_1 := kq 1; clear kq; have f9_w_0 := frozAt hb9 (w.heap.size) (by go_size); simp [go_sem, *] at k9_w_0_0 k9_w_0_1 f9_w_0)); (try have l9_w_0 : w.heap.size < w9.heap.size := by omega); (try (have kq := cellAt hb9 (w.heap.size + 1) (by go_size); have k9_w_1_0 := kq 0; have k9_w_1_1 := kq 1; have k9_w_1_2 := kq 2; have k9_w_1_3 := kq 3; clear kq; have f9_w_1 := frozAt hb9 (w.heap.size + 1) (by go_size); simp [go_sem, *] at k9_w_1_0 k9_w_1_1 k9_w_1_2 k9_w_1_3 f9_w_1)); (try have l9_w_1 : w.heap.size + 1 < w9.heap.size := by omega); (try (have kq := cellAt hb9 (w.heap.size + 1 + 1) (by go_size); have k9_w_2_0 := kq 0; have k9_w_2_1 := kq 1; have k9_w_2_2 := kq 2; have k9_w_2_3 := kq 3; clear kq; have f9_w_2 := frozAt hb9 (w.heap.size + 1 + 1) (by go_size); simp [go_sem, *] at k9_w_2_0 k9_w_2_1 k9_w_2_2 k9_w_2_3 f9_w_2)); (try have l9_w_2 : w.heap.size + 1 + 1 < w9.heap.size := by omega); (try (have kq := cellAt hb9 (g2_6) (by go_size); have k9_g2_6_0 := kq 0; have k9_g2_6_1 := kq 1; clear kq; have f9_g2_6 := frozAt hb9 (g2_6) (by go_size); simp [go_sem, *] at k9_g2_6_0 k9_g2_6_1 f9_g2_6)); (try have l9_g2_6 : g2_6 < w9.heap.size := by omega); (try (have kq := cellAt hb9 (g2_7) (by go_size); have k9_g2_7_0 := kq 0; have k9_g2_7_1 := kq 1; clear kq; have f9_g2_7 := frozAt hb9 (g2_7) (by go_size); simp [go_sem, *] at k9_g2_7_0 k9_g2_7_1 f9_g2_7)); (try have l9_g2_7 : g2_7 < w9.heap.size := by omega); (try clear k5_w_0_0 k5_w_0_1 f5_w_0); (try clear l5_w_0); (try clear k5_w_1_0 k5_w_1_1 k5_w_1_2 k5_w_1_3 f5_w_1); (try clear l5_w_1); (try clear k5_w_2_0 k5_w_2_1 k5_w_2_2 k5_w_2_3 f5_w_2); (try clear l5_w_2); (try clear k5_g2_6_0 k5_g2_6_1 f5_g2_6); (try clear l5_g2_6); (try clear k5_g2_7_0 k5_g2_7_1 f5_g2_7); (try clear l5_g2_7); (try clear k6_w_0_0 k6_w_0_1 f6_w_0); (try clear l6_w_0); (try clear k6_w_1_0 k6_w_1_1 k6_w_1_2 k6_w_1_3 f6_w_1); (try clear l6_w_1); (try clear k6_w_2_0 k6_w_2_1 k6_w_2_2 k6_w_2_3 f6_w_2); (try clear l6_w_2); (try clear k6_g2_6_0 k6_g2_6_1 f6_g2_6); (try clear l6_g2_6); (try clear k6_g2_7_0 k6_g2_7_1 f6_g2_7); (try clear l6_g2_7); (try clear k7_w_0_0 k7_w_0_1 f7_w_0); (try clear l7_w_0); (try clear k7_w_1_0 k7_w_1_1 k7_w_1_2 k7_w_1_3 f7_w_1); (try clear l7_w_1); (try clear k7_w_2_0 k7_w_2_1 k7_w_2_2 k7_w_2_3 f7_w_2); (try clear l7_w_2); (try clear k7_g2_6_0 k7_g2_6_1 f7_g2_6); (try clear l7_g2_6); (try clear k7_g2_7_0 k7_g2_7_1 f7_g2_7); (try clear l7_g2_7); (try clear k8_w_0_0 k8_w_0_1 f8_w_0); (try clear l8_w_0); (try clear k8_w_1_0 k8_w_1_1 k8_w_1_2 k8_w_1_3 f8_w_1); (try clear l8_w_1); (try clear k8_w_2_0 k8_w_2_1 k8_w_2_2 k8_w_2_3 f8_w_2); (try clear l8_w_2); (try clear k8_g2_6_0 k8_g2_6_1 f8_g2_6); (try clear l8_g2_6); (try clear k8_g2_7_0 k8_g2_7_1 f8_g2_7); (try clear l8_g2_7)))
      have H_C_9 := (hb9.block (w.heap.size) (blk_lt' H_C_8.out)).trans H_C_8.out
      clear k_C_8_0 k_C_8_1 f_C_8 H_C_8
      obtain ⟨k_C_9_0, k_C_9_1, f_C_9, l_C_9⟩ := bk2 H_C_9
      replace H_C_9 := Lib.hid H_C_9
      have H_O_9 := (hb9.block (w.heap.size + 1 + 1) (blk_lt' H_O_8.out)).trans H_O_8.out
      clear k_O_8_0 k_O_8_1 k_O_8_2 k_O_8_3 f_O_8 H_O_8
      obtain ⟨k_O_9_0, k_O_9_1, k_O_9_2, k_O_9_3, f_O_9, l_O_9⟩ := bk4 H_O_9
      replace H_O_9 := Lib.hid H_O_9
      have H_T_9 := (hb9.block (g2_6) (blk_lt' H_T_8.out)).trans H_T_8.out
      clear k_T_8_0 k_T_8_1 f_T_8 H_T_8
      obtain ⟨k_T_9_0, k_T_9_1, f_T_9, l_T_9⟩ := bk2 H_T_9
      replace H_T_9 := Lib.hid H_T_9
      have H_S_9 := (hb9.block (g2_7) (blk_lt' H_S_8.out)).trans H_S_8.out
      clear k_S_8_0 k_S_8_1 f_S_8 H_S_8
      obtain ⟨k_S_9_0, k_S_9_1, f_S_9, l_S_9⟩ := bk2 H_S_9
      replace H_S_9 := Lib.hid H_S_9
      replace ht5 := ht5.below hb9
      replace hs6 := hs6.below hb9
      have hB9 : Below w.heap.size w w9 := below_via hb9 (by assumption) (by first | exact hB8.size | go_size)
      have F9 : Fr w.heap.size a9 := f9.mono (by have := hB8.size; first | omega | go_size)
      clear f9
      replace H_C_9 := H_C_9.out
      replace H_O_9 := H_O_9.out
      replace H_T_9 := H_T_9.out
      replace H_S_9 := H_S_9.out
      refine chk (fun W => Below w.heap.size w W ∧ W.heap[w.heap.size + 1 + 1]? = some (.cells #[.bool false, .slice none 0 0, .bool false, .slice none 0 0] 37 (0, 0)) ∧ W.heap[g2_7]? = some (.cells #[.bool b6, .slice a6 n6 c6] 35 (0, 0)) ∧ W.heap[w9.heap.size]? = some (.cells #[.bool b9, .slice a9 n9 c9] 35 (0, 0)) ∧ Wx W b6 a6 n6 c6 s1 ∧ Wx W b9 a9 n9 c9 p) (by refine ⟨?_, ?_, ?_, ?_, ?_, ?_⟩ <;> (repeat' first | (with_reducible first | assumption | (apply Ne.symm; assumption) | apply Nat.le_refl | apply Nat.le_add_right | apply zL | apply zRf | apply Wx.box | apply Wx.box4 | apply zWa | apply Wx.drew | apply zWn | apply bx_drew | apply bx_drewN | apply bx_set3 | apply bx_set2 | apply bx_set4 | apply bx_set1) | ((with_reducible apply bx_new); (focus (go_size; done))) | (with_reducible first | apply zOl | apply zFa | apply zDn | apply zDr | apply zAl | apply zSt | refine zVi (by assumption) ?_ ?_) | go_size | omega)) ?_
      try clear hs6
      try clear hp9
      clear k_C_9_0 k_C_9_1 f_C_9 H_C_9
      clear k_O_9_0 k_O_9_1 k_O_9_2 k_O_9_3 f_O_9 H_O_9
      clear k_T_9_0 k_T_9_1 f_T_9 H_T_9
      clear k_S_9_0 k_S_9_1 f_S_9 H_S_9
      clear hB9
      rintro w10 ⟨hB10, H_O_10, H_S_10, H_P_10, hs6', hp9'⟩
      obtain ⟨k_O_10_0, k_O_10_1, k_O_10_2, k_O_10_3, f_O_10, l_O_10⟩ := bk4 H_O_10
      replace H_O_10 := Lib.hid H_O_10
      obtain ⟨k_S_10_0, k_S_10_1, f_S_10, l_S_10⟩ := bk2 H_S_10
      replace H_S_10 := Lib.hid H_S_10
      obtain ⟨k_P_10_0, k_P_10_1, f_P_10, l_P_10⟩ := bk2 H_P_10
      replace H_P_10 := Lib.hid H_P_10
      have hs6 := hs6'
      clear hs6'
      have hp9 := hp9'
      clear hp9'
      go_upto_region 10 with (first | (have _t := tok11; go_at_call 34; (with_reducible refine ((TO2 _ _ _ _ _ (hs6.below (by repeat' first | (with_reducible first | apply zRf | assumption | apply zDn | apply zDr | apply zAl | apply zSt | refine zVi (by assumption) ?_ ?_) | go_size)))).mono ?_); rintro e w11 ⟨b11, a11, n11, c11, r11, rfl, hq11, f11, hb11⟩; clear tok11 _t; have hz11 := hb11.size; (try simp only [World.size_alloc, World.size_setCell, World.size_drew, World.size_drewN'] at hz11); (try (have kq := cellAt hb11 (w.heap.size) (by go_size); have k11_w_0_0 := kq 0; have k11_w_0_1 := kq 1; clear kq; have f11_w_0 := frozAt hb11 (w.heap.size) (by go_size); simp [go_sem, *] at k11_w_0_0 k11_w_0_1 f11_w_0)); (try have l11_w_0 : w.heap.size < w11.heap.size := by omega); (try (have kq := cellAt hb11 (w.heap.size + 1) (by go_size); have k11_w_1_0 := kq 0; have k11_w_1_1 := kq 1; have k11_w_1_2 := kq 2; have k11_w_1_3 := kq 3; clear kq; have f11_w_1 := frozAt hb11 (w.heap.size + 1) (by go_size); simp [go_sem, *] at k11_w_1_0 k11_w_1_1 k11_w_1_2 k11_w_1_3 f11_w_1)); (try have l11_w_1 : w.heap.size + 1 < w11.heap.size := by omega); (try (have kq := cellAt hb11 (w.heap.size + 1 + 1) (by go_size); have k11_w_2_0 := kq 0; have k11_w_2_1 := kq 1; have k11_w_2_2 := kq 2; have k11_w_2_3 := kq 3; clear kq; have f11_w_2 := frozAt hb11 (w.heap.size + 1 + 1) (by go_size); simp [go_sem, *] at k11_w_2_0 k11_w_2_1 k11_w_2_2 k11_w_2_3 f11_w_2)); (try have l11_w_2 : w.heap.size + 1 + 1 < w11.heap.size := by omega); (try (have kq := cellAt hb11 (g2_7) (by go_size); have k11_g2_7_0 := kq 0; have k11_g2_7_1 := kq 1; clear kq; have f11_g2_7 := frozAt hb11 (g2_7) (by go_size); simp [go_sem, *] at k11_g2_7_0 k11_g2_7_1 f11_g2_7)); (try have l11_g2_7 : g2_7 < w11.heap.size := by omega); (try clear k7_w_0_0 k7_w_0_1 f7_w_0); (try clear l7_w_0); (try clear k7_w_1_0 k7_w_1_1 k7_w_1_2 k7_w_1_3 f7_w_1); (try clear l7_w_1); (try clear k7_w_2_0 k7_w_2_1 k7_w_2_2 k7_w_2_3 f7_w_2); (try clear l7_w_2); (try clear k7_g2_7_0 k7_g2_7_1 f7_g2_7); (try clear l7_g2_7); (try clear k8_w_0_0 k8_w_0_1 f8_w_0); (try clear l8_w_0); (try clear k8_w_1_0 k8_w_1_1 k8_w_1_2 k8_w_1_3 f8_w_1); (try clear l8_w_1); (try clear k8_w_2_0 k8_w_2_1 k8_w_2_2 k8_w_2_3 f8_w_2); (try clear l8_w_2); (try clear k8_g2_7_0 k8_g2_7_1 f8_g2_7); (try clear l8_g2_7); (try clear k9_w_0_0 k9_w_0_1 f9_w_0); (try clear l9_w_0); (try clear k9_w_1_0 k9_w_1_1 k9_w_1_2 k9_w_1_3 f9_w_1); (try clear l9_w_1); (try clear k9_w_2_0 k9_w_2_1 k9_w_2_2 k9_w_2_3 f9_w_2); (try clear l9_w_2); (try clear k9_g2_7_0 k9_g2_7_1 f9_g2_7); (try clear l9_g2_7); (try clear k10_w_0_0 k10_w_0_1 f10_w_0); (try clear l10_w_0); (try clear k10_w_1_0 k10_w_1_1 k10_w_1_2 k10_w_1_3 f10_w_1); (try clear l10_w_1); (try clear k10_w_2_0 k10_w_2_1 k10_w_2_2 k10_w_2_3 f10_w_2); (try clear l10_w_2); (try clear k10_g2_7_0 k10_g2_7_1 f10_g2_7); (try clear l10_g2_7)))
      have H_O_11 := (hb11.block (w.heap.size + 1 + 1) (blk_lt' H_O_10.out)).trans H_O_10.out
      clear k_O_10_0 k_O_10_1 k_O_10_2 k_O_10_3 f_O_10 H_O_10
      obtain ⟨k_O_11_0, k_O_11_1, k_O_11_2, k_O_11_3, f_O_11, l_O_11⟩ := bk4 H_O_11
      replace H_O_11 := Lib.hid H_O_11
      have H_S_11 := (hb11.block (g2_7) (blk_lt' H_S_10.out)).trans H_S_10.out
      clear k_S_10_0 k_S_10_1 f_S_10 H_S_10
      obtain ⟨k_S_11_0, k_S_11_1, f_S_11, l_S_11⟩ := bk2 H_S_11
      replace H_S_11 := Lib.hid H_S_11
      have H_P_11 := (hb11.block (w9.heap.size) (blk_lt' H_P_10.out)).trans H_P_10.out
      clear k_P_10_0 k_P_10_1 f_P_10 H_P_10
      obtain ⟨k_P_11_0, k_P_11_1, f_P_11, l_P_11⟩ := bk2 H_P_11
      replace H_P_11 := Lib.hid H_P_11
      replace hs6 := hs6.below hb11
      replace hp9 := hp9.below hb11
      have hB11 : Below w.heap.size w w11 := below_via hb11 (by assumption) (by first | exact hB10.size | go_size)
      have F11 : Fr w.heap.size a11 := f11.mono (by have := hB10.size; first | omega | go_size)
      clear f11
      replace H_O_11 := H_O_11.out
      replace H_S_11 := H_S_11.out
      replace H_P_11 := H_P_11.out
      refine chk (fun W => Below w.heap.size w W ∧ W.heap[w.heap.size + 1 + 1]? = some (.cells #[.bool false, .slice none 0 0, .bool false, .slice none 0 0] 37 (0, 0)) ∧ W.heap[w9.heap.size]? = some (.cells #[.bool b9, .slice a9 n9 c9] 35 (0, 0)) ∧ W.heap[w11.heap.size]? = some (.cells #[.bool b11, .slice a11 n11 c11] 35 (0, 0)) ∧ Wx W b9 a9 n9 c9 p ∧ Wx W b11 a11 n11 c11 q) (by refine ⟨?_, ?_, ?_, ?_, ?_, ?_⟩ <;> (repeat' first | (with_reducible first | assumption | (apply Ne.symm; assumption) | apply Nat.le_refl | apply Nat.le_add_right | apply zL | apply zRf | apply Wx.box | apply Wx.box4 | apply zWa | apply Wx.drew | apply zWn | apply bx_drew | apply bx_drewN | apply bx_set3 | apply bx_set2 | apply bx_set4 | apply bx_set1) | ((with_reducible apply bx_new); (focus (go_size; done))) | (with_reducible first | apply zOl | apply zFa | apply zDn | apply zDr | apply zAl | apply zSt | refine zVi (by assumption) ?_ ?_) | go_size | omega)) ?_
      try clear hp9
      try clear hq11
      clear k_O_11_0 k_O_11_1 k_O_11_2 k_O_11_3 f_O_11 H_O_11
      clear k_S_11_0 k_S_11_1 f_S_11 H_S_11
      clear k_P_11_0 k_P_11_1 f_P_11 H_P_11
      clear hB11
      rintro w12 ⟨hB12, H_O_12, H_P_12, H_Q_12, hp9', hq11'⟩
      obtain ⟨k_O_12_0, k_O_12_1, k_O_12_2, k_O_12_3, f_O_12, l_O_12⟩ := bk4 H_O_12
      replace H_O_12 := Lib.hid H_O_12
      obtain ⟨k_P_12_0, k_P_12_1, f_P_12, l_P_12⟩ := bk2 H_P_12
      replace H_P_12 := Lib.hid H_P_12
      obtain ⟨k_Q_12_0, k_Q_12_1, f_Q_12, l_Q_12⟩ := bk2 H_Q_12
      replace H_Q_12 := Lib.hid H_Q_12
      have hp9 := hp9'
      clear hp9'
      have hq11 := hq11'
      clear hq11'
      go_upto_region 11 with (fail)
      replace H_O_12 := H_O_12.out
      replace H_P_12 := H_P_12.out
      replace H_Q_12 := H_Q_12.out
      refine chk (fun W => Below w.heap.size w W ∧ W.heap[w.heap.size + 1 + 1]? = some (.cells #[.bool false, .slice none 0 0, .bool false, .slice none 0 0] 37 (0, 0)) ∧ W.heap[w12.heap.size]? = some (.cells #[.bool b9, .slice a9 n9 c9, .bool b11, .slice a11 n11 c11] 37 (0, 0)) ∧ Wx W b9 a9 n9 c9 p ∧ Wx W b11 a11 n11 c11 q) (by refine ⟨?_, ?_, ?_, ?_, ?_⟩ <;> (repeat' first | (with_reducible first | assumption | (apply Ne.symm; assumption) | apply Nat.le_refl | apply Nat.le_add_right | apply zL | apply zRf | apply Wx.box | apply Wx.box4 | apply zWa | apply Wx.drew | apply zWn | apply bx_drew | apply bx_drewN | apply bx_set3 | apply bx_set2 | apply bx_set4 | apply bx_set1) | ((with_reducible apply bx_new); (focus (go_size; done))) | (with_reducible first | apply zOl | apply zFa | apply zDn | apply zDr | apply zAl | apply zSt | refine zVi (by assumption) ?_ ?_) | go_size | omega)) ?_
      try clear hp9
      try clear hq11
      clear k_O_12_0 k_O_12_1 k_O_12_2 k_O_12_3 f_O_12 H_O_12
      clear k_P_12_0 k_P_12_1 f_P_12 H_P_12
      clear k_Q_12_0 k_Q_12_1 f_Q_12 H_Q_12
      clear hB12
      rintro w13 ⟨hB13, H_O_13, H_N_13, hp9', hq11'⟩
      obtain ⟨k_O_13_0, k_O_13_1, k_O_13_2, k_O_13_3, f_O_13, l_O_13⟩ := bk4 H_O_13
      replace H_O_13 := Lib.hid H_O_13
      obtain ⟨k_N_13_0, k_N_13_1, k_N_13_2, k_N_13_3, f_N_13, l_N_13⟩ := bk4 H_N_13
      replace H_N_13 := Lib.hid H_N_13
      have hp9 := hp9'
      clear hp9'
      have hq11 := hq11'
      clear hq11'
      rcases HRR.out with ⟨rfl, hd⟩ | ⟨rfl, hd⟩
      · subst hd
        clear HRR
        go_upto_region 13 with (first | (have _t := tok14; go_at_call 29; (with_reducible refine ((TG _ _ _ _ _ _ _ _ _ (hp9.below (by repeat' first | (with_reducible first | apply zRf | assumption | apply zDn | apply zDr | apply zAl | apply zSt | refine zVi (by assumption) ?_ ?_) | go_size)) (hq11.below (by repeat' first | (with_reducible first | apply zRf | assumption | apply zDn | apply zDr | apply zAl | apply zSt | refine zVi (by assumption) ?_ ?_) | go_size)))).mono ?_); rintro e w14 ⟨rfl, hb14⟩; clear tok14 _t; have hz14 := hb14.size; (try simp only [World.size_alloc, World.size_setCell, World.size_drew, World.size_drewN'] at hz14); (try (have kq := cellAt hb14 (w.heap.size) (by go_size); have k14_w_0_0 := kq 0; have k14_w_0_1 := kq 1; clear kq; have f14_w_0 := frozAt hb14 (w.heap.size) (by go_size); simp [go_sem, *] at k14_w_0_0 k14_w_0_1 f14_w_0)); (try have l14_w_0 : w.heap.size < w14.heap.size := by omega); (try (have kq := cellAt hb14 (w.heap.size + 1) (by go_size); have k14_w_1_0 := kq 0; have k14_w_1_1 := kq 1; have k14_w_1_2 := kq 2; have k14_w_1_3 := kq 3; clear kq; have f14_w_1 := frozAt hb14 (w.heap.size + 1) (by go_size); simp [go_sem, *] at k14_w_1_0 k14_w_1_1 k14_w_1_2 k14_w_1_3 f14_w_1)); (try have l14_w_1 : w.heap.size + 1 < w14.heap.size := by omega); (try (have kq := cellAt hb14 (w.heap.size + 1 + 1) (by go_size); have k14_w_2_0 := kq 0; have k14_w_2_1 := kq 1; have k14_w_2_2 := kq 2; have k14_w_2_3 := kq 3; clear kq; have f14_w_2 := frozAt hb14 (w.heap.size + 1 + 1) (by go_size); simp [go_sem, *] at k14_w_2_0 k14_w_2_1 k14_w_2_2 k14_w_2_3 f14_w_2)); (try have l14_w_2 : w.heap.size + 1 + 1 < w14.heap.size := by omega); (try (have kq := cellAt hb14 (w12.heap.size) (by go_size); have k14_w12_0_0 := kq 0; have k14_w12_0_1 := kq 1; have k14_w12_0_2 := kq 2; have k14_w12_0_3 := kq 3; clear kq; have f14_w12_0 := frozAt hb14 (w12.heap.size) (by go_size); simp [go_sem, *] at k14_w12_0_0 k14_w12_0_1 k14_w12_0_2 k14_w12_0_3 f14_w12_0)); (try have l14_w12_0 : w12.heap.size < w14.heap.size := by omega); (try clear k10_w_0_0 k10_w_0_1 f10_w_0); (try clear l10_w_0); (try clear k10_w_1_0 k10_w_1_1 k10_w_1_2 k10_w_1_3 f10_w_1); (try clear l10_w_1); (try clear k10_w_2_0 k10_w_2_1 k10_w_2_2 k10_w_2_3 f10_w_2); (try clear l10_w_2); (try clear k11_w_0_0 k11_w_0_1 f11_w_0); (try clear l11_w_0); (try clear k11_w_1_0 k11_w_1_1 k11_w_1_2 k11_w_1_3 f11_w_1); (try clear l11_w_1); (try clear k11_w_2_0 k11_w_2_1 k11_w_2_2 k11_w_2_3 f11_w_2); (try clear l11_w_2); (try clear k12_w_0_0 k12_w_0_1 f12_w_0); (try clear l12_w_0); (try clear k12_w_1_0 k12_w_1_1 k12_w_1_2 k12_w_1_3 f12_w_1); (try clear l12_w_1); (try clear k12_w_2_0 k12_w_2_1 k12_w_2_2 k12_w_2_3 f12_w_2); (try clear l12_w_2); (try clear k13_w_0_0 k13_w_0_1 f13_w_0); (try clear l13_w_0); (try clear k13_w_1_0 k13_w_1_1 k13_w_1_2 k13_w_1_3 f13_w_1); (try clear l13_w_1); (try clear k13_w_2_0 k13_w_2_1 k13_w_2_2 k13_w_2_3 f13_w_2); (try clear l13_w_2); (try clear k13_w12_0_0 k13_w12_0_1 k13_w12_0_2 k13_w12_0_3 f13_w12_0); (try clear l13_w12_0)))
        have H_O_14 := (hb14.block (w.heap.size + 1 + 1) (blk_lt' H_O_13.out)).trans H_O_13.out
        clear k_O_13_0 k_O_13_1 k_O_13_2 k_O_13_3 f_O_13 H_O_13
        obtain ⟨k_O_14_0, k_O_14_1, k_O_14_2, k_O_14_3, f_O_14, l_O_14⟩ := bk4 H_O_14
        replace H_O_14 := Lib.hid H_O_14
        have H_N_14 := (hb14.block (w12.heap.size) (blk_lt' H_N_13.out)).trans H_N_13.out
        clear k_N_13_0 k_N_13_1 k_N_13_2 k_N_13_3 f_N_13 H_N_13
        obtain ⟨k_N_14_0, k_N_14_1, k_N_14_2, k_N_14_3, f_N_14, l_N_14⟩ := bk4 H_N_14
        replace H_N_14 := Lib.hid H_N_14
        replace hp9 := hp9.below hb14
        replace hq11 := hq11.below hb14
        have hB14 : Below w.heap.size w w14 := below_via hb14 (by assumption) (by first | exact hB13.size | go_size)
        replace H_O_14 := H_O_14.out
        replace H_N_14 := H_N_14.out
        refine chk (fun W => Below w.heap.size w W ∧ W.heap[w.heap.size + 1 + 1]? = some (.cells #[.bool false, .slice none 0 0, .bool false, .slice none 0 0] 37 (0, 0)) ∧ W.heap[w12.heap.size]? = some (.cells #[.bool b9, .slice a9 n9 c9, .bool b11, .slice a11 n11 c11] 37 (0, 0)) ∧ Wx W b9 a9 n9 c9 p ∧ Wx W b11 a11 n11 c11 q) (by refine ⟨?_, ?_, ?_, ?_, ?_⟩ <;> (repeat' first | (with_reducible first | assumption | (apply Ne.symm; assumption) | apply Nat.le_refl | apply Nat.le_add_right | apply zL | apply zRf | apply Wx.box | apply Wx.box4 | apply zWa | apply Wx.drew | apply zWn | apply bx_drew | apply bx_drewN | apply bx_set3 | apply bx_set2 | apply bx_set4 | apply bx_set1) | ((with_reducible apply bx_new); (focus (go_size; done))) | (with_reducible first | apply zOl | apply zFa | apply zDn | apply zDr | apply zAl | apply zSt | refine zVi (by assumption) ?_ ?_) | go_size | omega)) ?_
        try clear hp9
        try clear hq11
        clear k_O_14_0 k_O_14_1 k_O_14_2 k_O_14_3 f_O_14 H_O_14
        clear k_N_14_0 k_N_14_1 k_N_14_2 k_N_14_3 f_N_14 H_N_14
        clear hB14
        rintro w15 ⟨hB15, H_O_15, H_N_15, hp9', hq11'⟩
        obtain ⟨k_O_15_0, k_O_15_1, k_O_15_2, k_O_15_3, f_O_15, l_O_15⟩ := bk4 H_O_15
        replace H_O_15 := Lib.hid H_O_15
        obtain ⟨k_N_15_0, k_N_15_1, k_N_15_2, k_N_15_3, f_N_15, l_N_15⟩ := bk4 H_N_15
        replace H_N_15 := Lib.hid H_N_15
        have hp9 := hp9'
        clear hp9'
        have hq11 := hq11'
        clear hq11'
        clear TO1 TO2 TD TG lt1 ls1 hA hBB
        have hON : w.heap.size + 1 + 1 ≠ w12.heap.size := by omega
        iterate 24 (first | (with_reducible show bodyPost _ _ _ _ _ _) | (with_reducible refine wp_ret ?_) | go_values | go_skip | go_guarded | go_step | go_upon | go_back | skip)
        refine bodyPost_ret (v := .tuple #[.agg #[.bool b9, .slice a9 n9 c9, .bool b11, .slice a11 n11 c11], .bool true]) (by simp [results, Try.results17, go_sem, k_O_15_0, k_O_15_1, k_O_15_2, k_O_15_3]) rfl ⟨_, _, _, _, _, _, _, _, rfl, ?_, ?_, F9, F11, ?_⟩
        all_goals (have HO := H_O_15.out)
        · (repeat' first | (with_reducible first | assumption | (apply Ne.symm; assumption) | apply Nat.le_refl | apply Nat.le_add_right | apply zL | apply zRf | apply Wx.box | apply Wx.box4 | apply zWa | apply Wx.drew | apply zWn | apply bx_drew | apply bx_drewN | apply bx_set3 | apply bx_set2 | apply bx_set4 | apply bx_set1) | ((with_reducible apply bx_new); (focus (go_size; done))) | (with_reducible first | apply zOl | apply zFa | apply zDn | apply zDr | apply zAl | apply zSt | refine zVi (by assumption) ?_ ?_) | go_size | omega)
        · (repeat' first | (with_reducible first | assumption | (apply Ne.symm; assumption) | apply Nat.le_refl | apply Nat.le_add_right | apply zL | apply zRf | apply Wx.box | apply Wx.box4 | apply zWa | apply Wx.drew | apply zWn | apply bx_drew | apply bx_drewN | apply bx_set3 | apply bx_set2 | apply bx_set4 | apply bx_set1) | ((with_reducible apply bx_new); (focus (go_size; done))) | (with_reducible first | apply zOl | apply zFa | apply zDn | apply zDr | apply zAl | apply zSt | refine zVi (by assumption) ?_ ?_) | go_size | omega)
        · (repeat' first | (with_reducible first | assumption | (apply Ne.symm; assumption) | apply Nat.le_refl | apply Nat.le_add_right | apply zL | apply zRf | apply Wx.box | apply Wx.box4 | apply zWa | apply Wx.drew | apply zWn | apply bx_drew | apply bx_drewN | apply bx_set3 | apply bx_set2 | apply bx_set4 | apply bx_set1) | ((with_reducible apply bx_new); (focus (go_size; done))) | (with_reducible first | apply zOl | apply zFa | apply zDn | apply zDr | apply zAl | apply zSt | refine zVi (by assumption) ?_ ?_) | go_size | omega)
      · subst hd
        clear HRR
        go_upto_region 12 with (first | (have _t := tok14; go_at_call 29; (with_reducible refine ((TG _ _ _ _ _ _ _ _ _ (hp9.below (by repeat' first | (with_reducible first | apply zRf | assumption | apply zDn | apply zDr | apply zAl | apply zSt | refine zVi (by assumption) ?_ ?_) | go_size)) (hq11.below (by repeat' first | (with_reducible first | apply zRf | assumption | apply zDn | apply zDr | apply zAl | apply zSt | refine zVi (by assumption) ?_ ?_) | go_size)))).mono ?_); rintro e w14 ⟨rfl, hb14⟩; clear tok14 _t; have hz14 := hb14.size; (try simp only [World.size_alloc, World.size_setCell, World.size_drew, World.size_drewN'] at hz14); (try (have kq := cellAt hb14 (w.heap.size) (by go_size); have k14_w_0_0 := kq 0; have k14_w_0_1 := kq 1; clear kq; have f14_w_0 := frozAt hb14 (w.heap.size) (by go_size); simp [go_sem, *] at k14_w_0_0 k14_w_0_1 f14_w_0)); (try have l14_w_0 : w.heap.size < w14.heap.size := by omega); (try (have kq := cellAt hb14 (w.heap.size + 1) (by go_size); have k14_w_1_0 := kq 0; have k14_w_1_1 := kq 1; have k14_w_1_2 := kq 2; have k14_w_1_3 := kq 3; clear kq; have f14_w_1 := frozAt hb14 (w.heap.size + 1) (by go_size); simp [go_sem, *] at k14_w_1_0 k14_w_1_1 k14_w_1_2 k14_w_1_3 f14_w_1)); (try have l14_w_1 : w.heap.size + 1 < w14.heap.size := by omega); (try (have kq := cellAt hb14 (w.heap.size + 1 + 1) (by go_size); have k14_w_2_0 := kq 0; have k14_w_2_1 := kq 1; have k14_w_2_2 := kq 2; have k14_w_2_3 := kq 3; clear kq; have f14_w_2 := frozAt hb14 (w.heap.size + 1 + 1) (by go_size); simp [go_sem, *] at k14_w_2_0 k14_w_2_1 k14_w_2_2 k14_w_2_3 f14_w_2)); (try have l14_w_2 : w.heap.size + 1 + 1 < w14.heap.size := by omega); (try (have kq := cellAt hb14 (w12.heap.size) (by go_size); have k14_w12_0_0 := kq 0; have k14_w12_0_1 := kq 1; have k14_w12_0_2 := kq 2; have k14_w12_0_3 := kq 3; clear kq; have f14_w12_0 := frozAt hb14 (w12.heap.size) (by go_size); simp [go_sem, *] at k14_w12_0_0 k14_w12_0_1 k14_w12_0_2 k14_w12_0_3 f14_w12_0)); (try have l14_w12_0 : w12.heap.size < w14.heap.size := by omega); (try clear k10_w_0_0 k10_w_0_1 f10_w_0); (try clear l10_w_0); (try clear k10_w_1_0 k10_w_1_1 k10_w_1_2 k10_w_1_3 f10_w_1); (try clear l10_w_1); (try clear k10_w_2_0 k10_w_2_1 k10_w_2_2 k10_w_2_3 f10_w_2); (try clear l10_w_2); (try clear k11_w_0_0 k11_w_0_1 f11_w_0); (try clear l11_w_0); (try clear k11_w_1_0 k11_w_1_1 k11_w_1_2 k11_w_1_3 f11_w_1); (try clear l11_w_1); (try clear k11_w_2_0 k11_w_2_1 k11_w_2_2 k11_w_2_3 f11_w_2); (try clear l11_w_2); (try clear k12_w_0_0 k12_w_0_1 f12_w_0); (try clear l12_w_0); (try clear k12_w_1_0 k12_w_1_1 k12_w_1_2 k12_w_1_3 f12_w_1); (try clear l12_w_1); (try clear k12_w_2_0 k12_w_2_1 k12_w_2_2 k12_w_2_3 f12_w_2); (try clear l12_w_2); (try clear k13_w_0_0 k13_w_0_1 f13_w_0); (try clear l13_w_0); (try clear k13_w_1_0 k13_w_1_1 k13_w_1_2 k13_w_1_3 f13_w_1); (try clear l13_w_1); (try clear k13_w_2_0 k13_w_2_1 k13_w_2_2 k13_w_2_3 f13_w_2); (try clear l13_w_2); (try clear k13_w12_0_0 k13_w12_0_1 k13_w12_0_2 k13_w12_0_3 f13_w12_0); (try clear l13_w12_0)))
        have H_O_14 := (hb14.block (w.heap.size + 1 + 1) (blk_lt' H_O_13.out)).trans H_O_13.out
        clear k_O_13_0 k_O_13_1 k_O_13_2 k_O_13_3 f_O_13 H_O_13
        obtain ⟨k_O_14_0, k_O_14_1, k_O_14_2, k_O_14_3, f_O_14, l_O_14⟩ := bk4 H_O_14
        replace H_O_14 := Lib.hid H_O_14
        have H_N_14 := (hb14.block (w12.heap.size) (blk_lt' H_N_13.out)).trans H_N_13.out
        clear k_N_13_0 k_N_13_1 k_N_13_2 k_N_13_3 f_N_13 H_N_13
        obtain ⟨k_N_14_0, k_N_14_1, k_N_14_2, k_N_14_3, f_N_14, l_N_14⟩ := bk4 H_N_14
        replace H_N_14 := Lib.hid H_N_14
        replace hp9 := hp9.below hb14
        replace hq11 := hq11.below hb14
        have hB14 : Below w.heap.size w w14 := below_via hb14 (by assumption) (by first | exact hB13.size | go_size)
        replace H_O_14 := H_O_14.out
        replace H_N_14 := H_N_14.out
        refine chk (fun W => Below w.heap.size w W ∧ W.heap[w.heap.size + 1 + 1]? = some (.cells #[.bool false, .slice none 0 0, .bool false, .slice none 0 0] 37 (0, 0))) (by refine ⟨?_, ?_⟩ <;> (repeat' first | (with_reducible first | assumption | (apply Ne.symm; assumption) | apply Nat.le_refl | apply Nat.le_add_right | apply zL | apply zRf | apply Wx.box | apply Wx.box4 | apply zWa | apply Wx.drew | apply zWn | apply bx_drew | apply bx_drewN | apply bx_set3 | apply bx_set2 | apply bx_set4 | apply bx_set1) | ((with_reducible apply bx_new); (focus (go_size; done))) | (with_reducible first | apply zOl | apply zFa | apply zDn | apply zDr | apply zAl | apply zSt | refine zVi (by assumption) ?_ ?_) | go_size | omega)) ?_
        clear k_O_14_0 k_O_14_1 k_O_14_2 k_O_14_3 f_O_14 H_O_14
        clear k_N_14_0 k_N_14_1 k_N_14_2 k_N_14_3 f_N_14 H_N_14
        clear hB14
        rintro w15 ⟨hB15, H_O_15⟩
        obtain ⟨k_O_15_0, k_O_15_1, k_O_15_2, k_O_15_3, f_O_15, l_O_15⟩ := bk4 H_O_15
        replace H_O_15 := Lib.hid H_O_15
        clear TO1 TO2 TD TG lt1 ls1 hA hBB
        iterate 24 (first | (with_reducible show bodyPost _ _ _ _ _ _) | (with_reducible refine wp_ret ?_) | go_values | go_skip | go_guarded | go_step | go_upon | go_back | skip)
        refine bodyPost_ret (v := .tuple #[.agg #[.bool false, .slice none 0 0, .bool false, .slice none 0 0], .bool false]) (by simp [results, Try.results17, go_sem, k_O_15_0, k_O_15_1, k_O_15_2, k_O_15_3]) rfl ⟨_, _, _, _, _, _, _, _, rfl, Wx.zero' _, Wx.zero' _, fr_none _, fr_none _, ?_⟩
        have HO := H_O_15.out
        (repeat' first | (with_reducible first | assumption | (apply Ne.symm; assumption) | apply Nat.le_refl | apply Nat.le_add_right | apply zL | apply zRf | apply Wx.box | apply Wx.box4 | apply zWa | apply Wx.drew | apply zWn | apply bx_drew | apply bx_drewN | apply bx_set3 | apply bx_set2 | apply bx_set4 | apply bx_set1) | ((with_reducible apply bx_new); (focus (go_size; done))) | (with_reducible first | apply zOl | apply zFa | apply zDn | apply zDr | apply zAl | apply zSt | refine zVi (by assumption) ?_ ?_) | go_size | omega)
end Go.Proofs.Ytijpfnkhaldfeaa
