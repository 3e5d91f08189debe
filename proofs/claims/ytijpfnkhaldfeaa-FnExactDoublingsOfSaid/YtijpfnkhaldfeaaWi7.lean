/- The divisor of the doubling; validity: the program. -/
import Derived.Test.YtijpfnkhaldfeaaWi6
namespace Go.Proofs.Ytijpfnkhaldfeaa
open Go.RowKit
set_option linter.unusedVariables false
set_option maxHeartbeats 1000000
set_option maxRecDepth 20000
set_option linter.unusedSimpArgs false
attribute [local go_sem] openAt openUpon
def openV (u : Value) : St where
  ok v W := v = u
  keep v W W2 h hb := h
theorem open_V {P : Program} {f : FuncId} {args : Array Value} {W : World} {u : Value} (h : Calls P f args W fun e w' => e = .returned u ∧ Below W.heap.size W w') : Calls P f args W fun e w' => ∃ v, e = .returned v ∧ (openV u).ok v w' ∧ Below W.heap.size W w' :=
  h.mono fun e w' ⟨h1, h2⟩ => ⟨_, h1, rfl, h2⟩
theorem divisorWith_eq {b : Bool} {a : Option Addr} {n c : Nat} {z d v : Int} {w : World} (hs : Wx w b a n c z) (l1 : ln z ≤ 9000) (hd : 1 ≤ d) (hd2 : d ≤ 100000000000000) (ev : gcdI (ab z % d) d = v) :
    Calls Try.prog 64 #[.agg #[.bool b, .slice a n c], .int .i64 d] w fun e w' => e = .returned (.int .i64 v) ∧ Below w.heap.size w w' := by
  have hl : n ≤ 9000 := by have := hs.ln; omega
  have EV := Lib.hid ev
  have l2 : ln (ab z) ≤ 9000 := by rw [ln_ab]; exact l1
  have m1 := Int.emod_nonneg (ab z) (b := d) (by omega)
  have m2 := Int.emod_lt_of_pos (ab z) (b := d) (by omega)
  clear ev
  have tok1 : True := trivial
  have tok2 : True := trivial
  go_enter Try.func64, Try.ntmps64
  go_wp2_with (first | (have _t := tok1; go_at_call 69; (with_reducible refine ((absolute_any b a n c z _ (hs.below (by repeat' first | (with_reducible first | apply zRf | assumption | apply zDn | apply zDr | apply zAl | apply zSt | refine zVi (by assumption) ?_ ?_) | go_size)) (by omega))).mono ?_); rintro e w1 ⟨b1, a1, n1, c1, rfl, h1, f1, hb1⟩; clear tok1 _t; have hz1 := hb1.size; (try simp only [World.size_alloc, World.size_setCell, World.size_drew, World.size_drewN'] at hz1); (try (have kq := cellAt hb1 (w.heap.size) (by go_size); have k1_w_0_0 := kq 0; have k1_w_0_1 := kq 1; clear kq; have f1_w_0 := frozAt hb1 (w.heap.size) (by go_size); simp [go_sem, *] at k1_w_0_0 k1_w_0_1 f1_w_0)); (try have l1_w_0 : w.heap.size < w1.heap.size := by omega)) | (have _t := tok2; go_at_call 53; (with_reducible refine ((divWhole_any h1 (by omega) hd hd2)).mono ?_); rintro e w2 ⟨b2, a2, n2, c2, rfl, h2, f2, hb2⟩; clear tok2 _t; have hz2 := hb2.size; (try simp only [World.size_alloc, World.size_setCell, World.size_drew, World.size_drewN'] at hz2); (try (have kq := cellAt hb2 (w.heap.size) (by go_size); have k2_w_0_0 := kq 0; have k2_w_0_1 := kq 1; clear kq; have f2_w_0 := frozAt hb2 (w.heap.size) (by go_size); simp [go_sem, *] at k2_w_0_0 k2_w_0_1 f2_w_0)); (try have l2_w_0 : w.heap.size < w2.heap.size := by omega); (try clear k1_w_0_0 k1_w_0_1 f1_w_0); (try clear l1_w_0)) | (go_at_call 70; refine (gcd_any _ _ _ (by omega) (by omega) (by omega) (by omega)).mono ?_; rintro e w' ⟨rfl, nq, rfl⟩))
  go_ret
  refine ⟨ret_int EV.out, ?_⟩
  repeat' first | (with_reducible first | apply zRf | assumption | apply zDn | apply zDr | apply zAl | apply zSt | refine zVi (by assumption) ?_ ?_) | go_size
theorem divisorTaken_eq {A B x z t s v : Int} {b b2 : Bool} {a a2 : Option Addr} {n c n2 c2 : Nat} {w : World} (hA : -1000 ≤ A ∧ A ≤ 1000) (hBB : -10000 ≤ B ∧ B ≤ 10000) (hcv : coV A B ≠ 0) (hx : Wx w b a n c x) (hz : Wx w b2 a2 n2 c2 z) (lx' : ln x ≤ 80) (lz' : ln z ≤ 80) (et : topZ A B x z = t) (es : botZ A B x z = s) (ev : dvZ (4 * absI (coV A B)) t s = v) :
    Calls Try.prog 52 #[.agg #[.int .i64 A, .int .i64 B], .agg #[.bool b, .slice a n c, .bool b2, .slice a2 n2 c2]] w fun e w' => e = .returned (.int .i64 v) ∧ Below w.heap.size w w' := by
  have hcb := coV_bd hA hBB
  obtain ⟨N, hN⟩ : ∃ N, 4 * absI (coV A B) = N := ⟨_, rfl⟩
  have hN1 : 1 ≤ N := by rw [← hN]; unfold absI; omega
  have hN2 : N ≤ 100000000000000 := by rw [← hN]; unfold absI; omega
  have hmx : ∀ (w : World) (ts : Array TypeId) (t : TypeId), (Builtin.max_ ts t #[.int .i64 (4 * coV A B), .int .i64 (-4 * coV A B)]).run Try.prog w = .ok (.int .i64 N) w := fun w ts t => by
    rw [← hN]
    by_cases h' : 4 * coV A B ≤ -4 * coV A B
    · simp [go_sem, h']; unfold absI; omega
    · simp [go_sem, h']; unfold absI; omega
  obtain ⟨g1, hg1⟩ : ∃ v, gcdI (ab t % N) N = v := ⟨_, rfl⟩
  have hv : gcdI (ab s % g1) g1 = v := by rw [← ev, ← hg1, hN]; exact dv_impl (by omega)
  have hg2 : 1 ≤ g1 := by rw [← hg1]; exact gcdI_pos (by omega)
  have hg3 : g1 ≤ N := by
    rw [← hg1]
    have := gcdI_le (a := ab t % N) (b := N) (by omega)
    have e : absI N = N := by unfold absI; omega
    omega
  have lt' : ln t ≤ 9000 := by
    rw [← et]; unfold topZ
    have a1 := ln_small (a := 2 * A) (by omega) (by omega)
    have a2 := ln_small (a := 8 * B) (by omega) (by omega)
    have hAA := mul_bd (a := A) (b := A) (A := 1000) (B := 1000) (by omega) (by omega)
    have a3 := ln_small (a := A * A) (by omega) (by omega)
    have xx := ln_mul_le lx' lx'
    have zz := ln_mul_le lz' lz'
    have xz := ln_mul_le lx' lz'
    have b1 : ln (x * x * (x * x)) ≤ 330 := Nat.le_trans (ln_mul_le xx xx) (by omega)
    have b2 : ln (x * x * (z * z) * (2 * A)) ≤ 330 := Nat.le_trans (ln_mul_le (ln_mul_le xx zz) a1) (by omega)
    have b3 : ln (x * z * (z * z) * (8 * B)) ≤ 331 := Nat.le_trans (ln_mul_le (ln_mul_le xz zz) a2) (by omega)
    have b4 : ln (z * z * (z * z) * (A * A)) ≤ 332 := Nat.le_trans (ln_mul_le (ln_mul_le zz zz) a3) (by omega)
    exact Nat.le_trans (ln_add_le (ln_sub_le (ln_sub_le b1 b2) b3) b4) (by omega)
  have ls' : ln s ≤ 9000 := by
    rw [← es]; unfold botZ
    have a1 := ln_small (a := A) (by omega) (by omega)
    have a2 := ln_small (a := B) (by omega) (by omega)
    have a4 := ln_small (a := 4) (by omega) (by omega)
    have zz := ln_mul_le lz' lz'
    have b1 : ln (x * x * x) ≤ 330 := Nat.le_trans (ln_mul_le (ln_mul_le lx' lx') lx') (by omega)
    have b2 : ln (x * (z * z) * A) ≤ 330 := Nat.le_trans (ln_mul_le (ln_mul_le lx' zz) a1) (by omega)
    have b3 : ln (z * (z * z) * B) ≤ 331 := Nat.le_trans (ln_mul_le (ln_mul_le lz' zz) a2) (by omega)
    exact Nat.le_trans (ln_mul_le (ln_mul_le lz' (ln_add_le (ln_add_le b1 b2) b3)) a4) (by omega)
  have HV := Lib.hid hv
  have HG := Lib.hid hg1
  have ET := Lib.hid et
  have ES := Lib.hid es
  clear ev hN hv hg1 et es
  go_enter Try.func52, Try.ntmps52
  go_wp2_with fail
  refine chk (fun W => Below w.heap.size w W ∧ W.heap[w.heap.size]? = some (.cells #[.int .i64 A, .int .i64 B] 33 (0, 0)) ∧ W.heap[w.heap.size + 1]? = some (.cells #[.bool b, .slice a n c, .bool b2, .slice a2 n2 c2] 37 (0, 0)) ∧ Wx W b a n c x ∧ Wx W b2 a2 n2 c2 z) (by refine ⟨?_, ?_, ?_, ?_, ?_⟩ <;> (repeat' first | (with_reducible first | assumption | (apply Ne.symm; assumption) | apply Nat.le_refl | apply Nat.le_add_right | apply zL | apply zRf | apply Wx.box | apply Wx.box4 | apply zWa | apply Wx.drew | apply zWn | apply bx_drew | apply bx_drewN | apply bx_set3 | apply bx_set2 | apply bx_set4 | apply bx_set1) | ((with_reducible apply bx_new); (focus (go_size; done))) | (with_reducible first | apply zOl | apply zFa | apply zDn | apply zDr | apply zAl | apply zSt | refine zVi (by assumption) ?_ ?_) | go_size | omega)) ?_
  try clear hx
  try clear hz
  rintro w1 ⟨hB1, H_C_1, H_R_1, hx', hz'⟩
  obtain ⟨k_C_1_0, k_C_1_1, f_C_1, l_C_1⟩ := bk2 H_C_1
  replace H_C_1 := Lib.hid H_C_1
  obtain ⟨k_R_1_0, k_R_1_1, k_R_1_2, k_R_1_3, f_R_1, l_R_1⟩ := bk4 H_R_1
  replace H_R_1 := Lib.hid H_R_1
  have hx := hx'
  clear hx'
  have hz := hz'
  clear hz'
  refine wp_open (n := 7) (by kernel_rfl) (by kernel_rfl) (by kernel_rfl) (by kernel_rfl) ?_
  simp only [List.take_succ_cons, List.take_zero]
  apply wpS_quiet
  · intro γ W hW hp
    have hs := hW.size
    (try simp only [World.size_alloc, World.size_setCell, World.size_drew, World.size_drewN'] at hs)
    have kx_0 := fun x : Over W => ((cellAt x.lies (w.heap.size) (by omega) 0).trans (cellAt hW (w.heap.size) (by first | omega | go_size) 0)).trans k_C_1_0
    have kx_1 := fun x : Over W => ((cellAt x.lies (w.heap.size) (by omega) 1).trans (cellAt hW (w.heap.size) (by first | omega | go_size) 1)).trans k_C_1_1
    clear hW hp
    refine ⟨rfl, ?_⟩
    go_big_quiet_op
    first | exact rfl
  · exact locS_const _
  try simp only [Act.put, List.setIfInBounds_toArray, List.set_cons_succ, List.set_cons_zero, Nat.reduceAdd]
  apply wpS_quiet
  · intro γ W hW hp
    refine ⟨rfl, ?_⟩
    go_big_quiet_op
    apply Exists.intro
    refine ⟨fun x => ?_, ?_⟩
    · (first | (go_at_call 36; exact draw_of _ (core_any A B _ hA hBB)))
    exact rfl
  · exact locS_const _
  try simp only [Act.put, List.setIfInBounds_toArray, List.set_cons_succ, List.set_cons_zero, Nat.reduceAdd]
  apply wpS_quiet
  · intro γ W hW hp
    refine ⟨rfl, ?_⟩
    go_big_quiet_op
    first | exact rfl
  · exact locS_const _
  try simp only [Act.put, List.setIfInBounds_toArray, List.set_cons_succ, List.set_cons_zero, Nat.reduceAdd]
  apply wpS_quiet
  · intro γ W hW hp
    have hs := hW.size
    (try simp only [World.size_alloc, World.size_setCell, World.size_drew, World.size_drewN'] at hs)
    have kx_0 := fun x : Over W => ((cellAt x.lies (w.heap.size) (by omega) 0).trans (cellAt hW (w.heap.size) (by first | omega | go_size) 0)).trans k_C_1_0
    have kx_1 := fun x : Over W => ((cellAt x.lies (w.heap.size) (by omega) 1).trans (cellAt hW (w.heap.size) (by first | omega | go_size) 1)).trans k_C_1_1
    clear hW hp
    refine ⟨rfl, ?_⟩
    go_big_quiet_op
    first | exact rfl
  · exact locS_const _
  try simp only [Act.put, List.setIfInBounds_toArray, List.set_cons_succ, List.set_cons_zero, Nat.reduceAdd]
  apply wpS_quiet
  · intro γ W hW hp
    refine ⟨rfl, ?_⟩
    go_big_quiet_op
    apply Exists.intro
    refine ⟨fun x => ?_, ?_⟩
    · (first | (go_at_call 36; exact draw_of _ (core_any A B _ hA hBB)))
    exact rfl
  · exact locS_const _
  try simp only [Act.put, List.setIfInBounds_toArray, List.set_cons_succ, List.set_cons_zero, Nat.reduceAdd]
  apply wpS_quiet
  · intro γ W hW hp
    refine ⟨rfl, ?_⟩
    go_big_quiet_op
    first | exact rfl
  · exact locS_const _
  try simp only [Act.put, List.setIfInBounds_toArray, List.set_cons_succ, List.set_cons_zero, Nat.reduceAdd]
  apply wpS_quiet
  · intro γ W hW hp
    refine ⟨rfl, ?_⟩
    go_big_quiet_op
    first | exact rfl
  · exact locS_const _
  try simp only [Act.put, List.setIfInBounds_toArray, List.set_cons_succ, List.set_cons_zero, Nat.reduceAdd]
  apply wpS_end
  intro γ w2 hb2 hG2 hA2
  clear hG2 hA2
  simp only [List.drop_succ_cons, List.drop_zero]
  have hz2 := hb2.size
  (try simp only [World.size_alloc, World.size_setCell, World.size_drew, World.size_drewN'] at hz2)
  have H_C_2 := (hb2.block (w.heap.size) (blk_lt' H_C_1.out)).trans H_C_1.out
  clear k_C_1_0 k_C_1_1 f_C_1 H_C_1
  obtain ⟨k_C_2_0, k_C_2_1, f_C_2, l_C_2⟩ := bk2 H_C_2
  replace H_C_2 := Lib.hid H_C_2
  have H_R_2 := (hb2.block (w.heap.size + 1) (blk_lt' H_R_1.out)).trans H_R_1.out
  clear k_R_1_0 k_R_1_1 k_R_1_2 k_R_1_3 f_R_1 H_R_1
  obtain ⟨k_R_2_0, k_R_2_1, k_R_2_2, k_R_2_3, f_R_2, l_R_2⟩ := bk4 H_R_2
  replace H_R_2 := Lib.hid H_R_2
  replace hx := hx.below hb2
  replace hz := hz.below hb2
  have hB2 : Below w.heap.size w w2 := below_via hb2 (by assumption) (by first | exact hB1.size | go_size)
  go_wp2_with fail
  refine wp_open (n := 9) (by kernel_rfl) (by kernel_rfl) (by kernel_rfl) (by kernel_rfl) ?_
  simp only [List.take_succ_cons, List.take_zero]
  apply wpS_quiet
  · intro γ W hW hp
    have hs := hW.size
    (try simp only [World.size_alloc, World.size_setCell, World.size_drew, World.size_drewN'] at hs)
    have kx_0 := fun x : Over W => ((cellAt x.lies (w.heap.size) (by omega) 0).trans (cellAt hW (w.heap.size) (by first | omega | go_size) 0)).trans k_C_2_0
    have kx_1 := fun x : Over W => ((cellAt x.lies (w.heap.size) (by omega) 1).trans (cellAt hW (w.heap.size) (by first | omega | go_size) 1)).trans k_C_2_1
    clear hW hp
    refine ⟨rfl, ?_⟩
    go_big_quiet_op
    first | exact rfl
  · exact locS_const _
  try simp only [Act.put, List.setIfInBounds_toArray, List.set_cons_succ, List.set_cons_zero, Nat.reduceAdd]
  apply wpS_quiet
  · intro γ W hW hp
    have hs := hW.size
    (try simp only [World.size_alloc, World.size_setCell, World.size_drew, World.size_drewN'] at hs)
    have kx_0 := fun x : Over W => ((cellAt x.lies (w.heap.size + 1) (by omega) 0).trans (cellAt hW (w.heap.size + 1) (by first | omega | go_size) 0)).trans k_R_2_0
    have kx_1 := fun x : Over W => ((cellAt x.lies (w.heap.size + 1) (by omega) 1).trans (cellAt hW (w.heap.size + 1) (by first | omega | go_size) 1)).trans k_R_2_1
    have kx_2 := fun x : Over W => ((cellAt x.lies (w.heap.size + 1) (by omega) 2).trans (cellAt hW (w.heap.size + 1) (by first | omega | go_size) 2)).trans k_R_2_2
    have kx_3 := fun x : Over W => ((cellAt x.lies (w.heap.size + 1) (by omega) 3).trans (cellAt hW (w.heap.size + 1) (by first | omega | go_size) 3)).trans k_R_2_3
    clear hW hp
    refine ⟨rfl, ?_⟩
    go_big_quiet_op
    first | exact rfl
  · exact locS_const _
  try simp only [Act.put, List.setIfInBounds_toArray, List.set_cons_succ, List.set_cons_zero, Nat.reduceAdd]
  apply wpS_open (openW w.heap.size s)
  · intro γ W hW hp
    refine ⟨rfl, ?_⟩
    go_simp
    refine plainNew rfl ?_
    exact open_W (denominatorOf_eq hA hBB (hx.below hW) (hz.below hW) lx' lz' ES.out) (by (have := hW.size; (try simp only [World.size_alloc, World.size_setCell, World.size_drew, World.size_drewN'] at this); omega))
  try simp only [Act.put, List.setIfInBounds_toArray, List.set_cons_succ, List.set_cons_zero, Nat.reduceAdd]
  apply wpS_quiet
  · intro γ W hW hp
    have hs := hW.size
    (try simp only [World.size_alloc, World.size_setCell, World.size_drew, World.size_drewN'] at hs)
    have kx_0 := fun x : Over W => ((cellAt x.lies (w.heap.size) (by omega) 0).trans (cellAt hW (w.heap.size) (by first | omega | go_size) 0)).trans k_C_2_0
    have kx_1 := fun x : Over W => ((cellAt x.lies (w.heap.size) (by omega) 1).trans (cellAt hW (w.heap.size) (by first | omega | go_size) 1)).trans k_C_2_1
    clear hW hp
    refine ⟨rfl, ?_⟩
    go_big_quiet_op
    first | exact rfl
  · exact locS_const _
  try simp only [Act.put, List.setIfInBounds_toArray, List.set_cons_succ, List.set_cons_zero, Nat.reduceAdd]
  apply wpS_quiet
  · intro γ W hW hp
    have hs := hW.size
    (try simp only [World.size_alloc, World.size_setCell, World.size_drew, World.size_drewN'] at hs)
    have kx_0 := fun x : Over W => ((cellAt x.lies (w.heap.size + 1) (by omega) 0).trans (cellAt hW (w.heap.size + 1) (by first | omega | go_size) 0)).trans k_R_2_0
    have kx_1 := fun x : Over W => ((cellAt x.lies (w.heap.size + 1) (by omega) 1).trans (cellAt hW (w.heap.size + 1) (by first | omega | go_size) 1)).trans k_R_2_1
    have kx_2 := fun x : Over W => ((cellAt x.lies (w.heap.size + 1) (by omega) 2).trans (cellAt hW (w.heap.size + 1) (by first | omega | go_size) 2)).trans k_R_2_2
    have kx_3 := fun x : Over W => ((cellAt x.lies (w.heap.size + 1) (by omega) 3).trans (cellAt hW (w.heap.size + 1) (by first | omega | go_size) 3)).trans k_R_2_3
    clear hW hp
    refine ⟨rfl, ?_⟩
    go_big_quiet_op
    first | exact rfl
  · exact locS_const _
  try simp only [Act.put, List.setIfInBounds_toArray, List.set_cons_succ, List.set_cons_zero, Nat.reduceAdd]
  apply wpS_open (openW w.heap.size t)
  · intro γ W hW hp
    refine ⟨rfl, ?_⟩
    go_simp
    refine plainNew rfl ?_
    exact open_W (numeratorOf_eq hA hBB (hx.below hW) (hz.below hW) lx' lz' ET.out) (by (have := hW.size; (try simp only [World.size_alloc, World.size_setCell, World.size_drew, World.size_drewN'] at this); omega))
  try simp only [Act.put, List.setIfInBounds_toArray, List.set_cons_succ, List.set_cons_zero, Nat.reduceAdd]
  apply wpS_quiet
  · intro γ W hW hp
    refine ⟨rfl, ?_⟩
    go_big_quiet_op
    first | exact rfl
  · exact locS_const _
  try simp only [Act.put, List.setIfInBounds_toArray, List.set_cons_succ, List.set_cons_zero, Nat.reduceAdd]
  apply wpS_open (openV (.int .i64 g1))
  · intro γ W hW hp
    have hp_5 := hp _ (List.mem_append_right _ (List.mem_singleton.2 rfl)) (by kernel_rfl)
    dsimp only at hp_5
    refine ⟨rfl, ?_⟩
    go_simp
    refine plainNew rfl ?_
    obtain ⟨b3, a3, n3, c3, e3, h3, _⟩ := hp_5
    rw [e3]
    exact open_V (divisorWith_eq h3 lt' hN1 hN2 HG.out)
  try simp only [Act.put, List.setIfInBounds_toArray, List.set_cons_succ, List.set_cons_zero, Nat.reduceAdd]
  apply wpS_open (openV (.int .i64 v))
  · intro γ W hW hp
    have hp_2 := hp _ (List.mem_append_left _ (List.mem_append_left _ (List.mem_append_right _ (List.mem_singleton.2 rfl)))) (by kernel_rfl)
    dsimp only at hp_2
    have hp_7 := hp _ (List.mem_append_right _ (List.mem_singleton.2 rfl)) (by kernel_rfl)
    dsimp only at hp_7
    refine ⟨rfl, ?_⟩
    go_simp
    refine plainNew rfl ?_
    obtain ⟨b3, a3, n3, c3, e3, h3, _⟩ := hp_2
    have e4 : γ 7 = _ := hp_7
    rw [e3, e4]
    exact open_V (divisorWith_eq h3 ls' hg2 (by omega) HV.out)
  try simp only [Act.put, List.setIfInBounds_toArray, List.set_cons_succ, List.set_cons_zero, Nat.reduceAdd]
  apply wpS_end
  intro γ w3 hb3 hG3 hA3
  have hg3_2 := hG3 _ (List.mem_append_left _ (List.mem_append_left _ (List.mem_append_left _ (List.mem_append_right _ (List.mem_singleton.2 rfl)))))
  dsimp only at hg3_2
  have hg3_5 := hG3 _ (List.mem_append_left _ (List.mem_append_left _ (List.mem_append_right _ (List.mem_singleton.2 rfl))))
  dsimp only at hg3_5
  have hg3_7 := hG3 _ (List.mem_append_left _ (List.mem_append_right _ (List.mem_singleton.2 rfl)))
  dsimp only at hg3_7
  have hg3_8 := hG3 _ (List.mem_append_right _ (List.mem_singleton.2 rfl))
  dsimp only at hg3_8
  clear hG3 hA3
  simp only [List.drop_succ_cons, List.drop_zero]
  have hz3 := hb3.size
  (try simp only [World.size_alloc, World.size_setCell, World.size_drew, World.size_drewN'] at hz3)
  have e8 : γ 8 = .int .i64 v := hg3_8
  simp only [e8]
  go_wp2_with fail
  go_ret
  refine ⟨rfl, ?_⟩
  repeat' first | (with_reducible first | apply zRf | assumption | apply zDn | apply zDr | apply zAl | apply zSt | refine zVi (by assumption) ?_ ?_) | go_size
end Go.Proofs.Ytijpfnkhaldfeaa
