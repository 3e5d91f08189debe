/- The sum of two points: the program. -/
import Derived.Test.YtndmacieecmapaaPtX
import Derived.Test.YtndmacieecmapaaTup
namespace Go.Proofs.Ytndmacieecmapaa
open Go.RowKit
set_option linter.unusedVariables false
set_option maxHeartbeats 16000000
set_option maxRecDepth 20000
set_option linter.unusedSimpArgs false
attribute [local go_sem] openAt openUpon
theorem td_low (a b : Int) (hb : b ≠ 0) : ∃ n m, a.tdiv (gcdI a b) = n ∧ b.tdiv (gcdI a b) = m ∧ 1 ≤ gcdI a b ∧ a = gcdI a b * n ∧ b = gcdI a b * m ∧ m ≠ 0 ∧ Int.gcd n m = 1 ∧ n.natAbs ≤ a.natAbs ∧ m.natAbs ≤ b.natAbs := by
  have hg : 0 < Int.gcd a b := Int.gcd_pos_of_ne_zero_right _ hb
  obtain ⟨p, hp⟩ := Int.gcd_dvd_left a b
  obtain ⟨q, hq⟩ := Int.gcd_dvd_right a b
  have hc : Int.gcd p q = 1 := by
    have h1 := Int.gcd_mul_left (Int.gcd a b) p q
    rw [← hp, ← hq, Int.natAbs_natCast] at h1
    exact Nat.eq_of_mul_eq_mul_left hg (by omega)
  have hP : a.tdiv (gcdI a b) = p := by
    unfold gcdI
    generalize Int.gcd a b = g at *
    rw [hp]; exact Int.mul_tdiv_cancel_left _ (by omega)
  have hQ : b.tdiv (gcdI a b) = q := by
    unfold gcdI
    generalize Int.gcd a b = g at *
    rw [hq]; exact Int.mul_tdiv_cancel_left _ (by omega)
  have b1 := tdiv_bd a (gcdI a b)
  have b2 := tdiv_bd b (gcdI a b)
  rw [hP] at b1
  rw [hQ] at b2
  refine ⟨p, q, hP, hQ, by unfold gcdI; omega, hp, hq, ?_, hc, b1, b2⟩
  intro h0
  subst h0
  simp at hq
  exact hb hq
theorem exR_sq (y : Int) : exR (y * y) = (absI y, true) := by
  have h : absI y * absI y = y * y := by unfold absI; rw [Int.natAbs_mul_self']
  have h0 := absI_nonneg y
  rw [← h]
  have h1 : rtV (absI y * absI y) = absI y := rtV_sq h0
  have h2 : ¬ absI y * absI y < 0 := by have := Int.mul_nonneg h0 h0; omega
  unfold exR
  rw [if_neg h2, h1, if_pos rfl]
theorem bd8 {n d : Int} (h : -8000 ≤ d ∧ d ≤ 8000) (h2 : -200 * d.natAbs ≤ n ∧ n ≤ 200 * d.natAbs) : -1600000 ≤ n ∧ n ≤ 1600000 := by omega
theorem side_sign {s e m e1 y : Int} (he : 1 ≤ e) (h1 : 1 ≤ e1) (hm : m ≠ 0) (h : s * e = (m*(e1*e1*e1))*y) : ((s < 0 ↔ m < 0) ∧ y = absI y) ∨ (¬ (s < 0 ↔ m < 0) ∧ y = -absI y) := by
  have hc : 0 < e1*e1*e1 := Int.mul_pos (Int.mul_pos (by omega) (by omega)) (by omega)
  have hs : ∀ t : Int, (t < 0 ↔ t * e < 0) := fun t => ⟨fun h => Int.mul_neg_of_neg_of_pos h (by omega), fun h => by
    rcases Int.lt_or_le t 0 with h' | h'
    · exact h'
    · have := Int.mul_nonneg h' (show 0 ≤ e by omega); omega⟩
  rw [hs s, h]
  rcases Int.lt_trichotomy y 0 with hy | hy | hy
  · have ha : absI y = -y := by unfold absI; omega
    right
    refine ⟨?_, by omega⟩
    rcases Int.lt_or_lt_of_ne hm with hm | hm
    · have : 0 < m*(e1*e1*e1)*y := Int.mul_pos_of_neg_of_neg (Int.mul_neg_of_neg_of_pos hm hc) hy
      omega
    · have : m*(e1*e1*e1)*y < 0 := Int.mul_neg_of_pos_of_neg (Int.mul_pos hm hc) hy
      omega
  · subst hy
    simp only [Int.mul_zero, Int.lt_irrefl, false_iff]
    rcases Int.lt_or_lt_of_ne hm with hm | hm
    · right; exact ⟨by omega, rfl⟩
    · left; exact ⟨by omega, rfl⟩
  · have ha : absI y = y := by unfold absI; omega
    left
    refine ⟨?_, by omega⟩
    rcases Int.lt_or_lt_of_ne hm with hm | hm
    · have : m*(e1*e1*e1)*y < 0 := Int.mul_neg_of_neg_of_pos (Int.mul_neg_of_neg_of_pos hm hc) hy
      omega
    · have : 0 < m*(e1*e1*e1)*y := Int.mul_pos (Int.mul_pos hm hc) hy
      omega
theorem imp_thX {n m x1 e1 x2 e2 e x : Int} : m*m*(e1*e1*e2*e2)*x = (n*n*(e1*e1*e2*e2) + -(m*m*(x1*e2*e2 + x2*e1*e1)))*(e*e) ↔ thX n m x1 e1 x2 e2 e x := by
  unfold thX
  have a1 : x * (m*m*((e1*e1)*(e2*e2))) = m*m*(e1*e1*e2*e2)*x := by grind
  have a2 : (n*n*((e1*e1)*(e2*e2)) - m*m*(x1*(e2*e2) + x2*(e1*e1)))*(e*e) = (n*n*(e1*e1*e2*e2) + -(m*m*(x1*e2*e2 + x2*e1*e1)))*(e*e) := by grind
  rw [a1, a2]
theorem imp_sd {n m x1 y1 e1 e x : Int} : n*(x1*e*e - x*e1*e1)*e1 - y1*m*e*e = sdV n m x1 y1 e1 e x := by unfold sdV; grind
def AdRel (n m x1 e1 x2 e2 : Int) (w0 : World) (ev : Value) (wr : World) : Prop := ∃ k : Nat, ev = .int .i64 ((k : Int) + 1) ∧ k ≤ 20 ∧ (∀ e x : Int, 1 ≤ e → e ≤ k → -10000 ≤ x → x ≤ 10000 → Int.gcd x e = 1 → ¬ thX n m x1 e1 x2 e2 e x) ∧ Below w0.heap.size w0 wr
def openSQ (p q : Int) : St where
  ok v W := ∃ (lo : Int) (b : Bool), v = .tuple #[.int .i64 lo, .bool b] ∧ b = decide (q * lo = p) ∧ -10000 ≤ lo ∧ lo ≤ 10000 ∧ (∀ z, -10000 ≤ z → z ≤ 10000 → q * z = p → z = lo)
  keep v W W2 h hb := h
theorem open_SQ {f : FuncId} {args : Array Value} {W : World} {p q : Int} (h : Calls Try.prog f args W fun e w' => ∃ lo : Int, e = .returned (.tuple #[.int .i64 lo, .bool (decide (q * lo = p))]) ∧ -10000 ≤ lo ∧ lo ≤ 10000 ∧ (∀ z, -10000 ≤ z → z ≤ 10000 → q * z = p → z = lo) ∧ Below W.heap.size W w') :
    Calls Try.prog f args W fun e w' => ∃ v, e = .returned v ∧ (openSQ p q).ok v w' ∧ Below W.heap.size W w' :=
  h.mono fun e w' ⟨lo, h1, h2, h3, h4, h5⟩ => ⟨_, h1, ⟨lo, _, rfl, rfl, h2, h3, h4⟩, h5⟩
theorem addPoints_any (A B x1 y1 e1 x2 y2 e2 : Int) (w : World) (hA : -1000 ≤ A ∧ A ≤ 1000) (hB : -10000 ≤ B ∧ B ≤ 10000) (hp : ptB A B x1 y1 e1 = true) (hq : ptB A B x2 y2 e2 = true) :
    Calls Try.prog 21 #[.agg #[.int .i64 A, .int .i64 B], .agg #[.int .i64 x1, .int .i64 y1, .int .i64 e1], .agg #[.int .i64 x2, .int .i64 y2, .int .i64 e2]] w fun e w' =>
      e = .returned (.tuple #[.agg #[.int .i64 (ptS A x1 y1 e1 x2 y2 e2).1, .int .i64 (ptS A x1 y1 e1 x2 y2 e2).2.1, .int .i64 (ptS A x1 y1 e1 x2 y2 e2).2.2.1], .bool (ptS A x1 y1 e1 x2 y2 e2).2.2.2]) ∧ Below w.heap.size w w' := by
  rcases pt_cases hA hB hp with ⟨rfl, rfl, rfl⟩ | ⟨he1, hx1, hy1, hg1, hc1⟩
  · rw [show ptS A 0 0 0 x2 y2 e2 = (x2, y2, e2, true) by simp [ptS]]
    clear hp hq
    go_enter Try.func21, Try.ntmps21
    go_wp2_with fail
    refine bodyPost_ret (v := _) (by simp [results, Try.results21, go_sem, *]) rfl ⟨rfl, ?_⟩
    repeat' first | (with_reducible first | apply zRf | assumption | apply zDn | apply zDr | apply zAl | apply zSt | refine zVi (by assumption) ?_ ?_) | go_size
  rcases pt_cases hA hB hq with ⟨rfl, rfl, rfl⟩ | ⟨he2, hx2, hy2, hg2, hc2⟩
  · rw [show ptS A x1 y1 e1 0 0 0 = (x1, y1, e1, true) by simp [ptS]; omega]
    have hz1 : e1 ≠ 0 := by omega
    clear hp hq
    go_enter Try.func21, Try.ntmps21
    go_wp2_with fail
    refine bodyPost_ret (v := _) (by simp [results, Try.results21, go_sem, *]) rfl ⟨rfl, ?_⟩
    repeat' first | (with_reducible first | apply zRf | assumption | apply zDn | apply zDr | apply zAl | apply zSt | refine zVi (by assumption) ?_ ?_) | go_size
  have hz1 : e1 ≠ 0 := by omega
  have hz2 : e2 ≠ 0 := by omega
  have hzb1 : (e1 == 0) = false := by simpa using hz1
  have hzb2 : (e2 == 0) = false := by simpa using hz2
  have HZ := sl_zero he1.1 he2.1 hg1 hg2 hc1 hc2
  have hq := fun (W : World) => eql_pt2 x1 y1 e1 x2 (-y2) e2 W
  obtain ⟨R, hR⟩ : ∃ v, ptS A x1 y1 e1 x2 y2 e2 = v := ⟨_, rfl⟩
  rw [hR]
  by_cases hz : x1 = x2 ∧ y1 = -y2 ∧ e1 = e2
  · rw [show ptS A x1 y1 e1 x2 y2 e2 = (0, 0, 0, true) by simp only [ptS, if_neg hz1, if_neg hz2, if_pos hz]] at hR
    subst hR
    rw [show decide (x1 = x2 ∧ y1 = -y2 ∧ e1 = e2) = true by simpa using hz] at hq
    clear hp hc1 hc2 hg1 hg2 HZ hz
    have tok1 : True := trivial
    have tok2 : True := trivial
    have tok3 : True := trivial
    go_enter Try.func21, Try.ntmps21
    go_upto_region 5 with fail
    refine chk (fun W => Below w.heap.size w W ∧ W.heap[w.heap.size]? = some (.cells #[.int .i64 A, .int .i64 B] 29 (0, 0)) ∧ W.heap[w.heap.size + 1]? = some (.cells #[.int .i64 x1, .int .i64 y1, .int .i64 e1] 31 (0, 0)) ∧ W.heap[w.heap.size + 1 + 1]? = some (.cells #[.int .i64 x2, .int .i64 y2, .int .i64 e2] 31 (0, 0)) ∧ W.heap[w.heap.size + 1 + 1 + 1]? = some (.cells #[.int .i64 0, .int .i64 0, .int .i64 0] 31 (0, 0))) (by refine ⟨?_, ?_, ?_, ?_, ?_⟩ <;> (repeat' first | (with_reducible first | assumption | (apply Ne.symm; assumption) | apply Nat.le_refl | apply Nat.le_add_right | apply zL | apply zRf | apply Wx.box | apply Wx.box4 | apply zWa | apply Wx.drew | apply zWn | apply bx_drew | apply bx_drewN | apply bx_set3 | apply bx_set2 | apply bx_set4 | apply bx_set1) | ((with_reducible apply bx_new); (focus (go_size; done))) | (with_reducible first | apply zOl | apply zFa | apply zDn | apply zDr | apply zAl | apply zSt | refine zVi (by assumption) ?_ ?_) | go_size | omega)) ?_
    rintro w1 ⟨hB1, H_C_1, H_P_1, H_Q_1, H_O_1⟩
    obtain ⟨k_C_1_0, k_C_1_1, f_C_1, l_C_1⟩ := bk2 H_C_1
    replace H_C_1 := Lib.hid H_C_1
    obtain ⟨k_P_1_0, k_P_1_1, k_P_1_2, f_P_1, l_P_1⟩ := bk3 H_P_1
    replace H_P_1 := Lib.hid H_P_1
    obtain ⟨k_Q_1_0, k_Q_1_1, k_Q_1_2, f_Q_1, l_Q_1⟩ := bk3 H_Q_1
    replace H_Q_1 := Lib.hid H_Q_1
    obtain ⟨k_O_1_0, k_O_1_1, k_O_1_2, f_O_1, l_O_1⟩ := bk3 H_O_1
    replace H_O_1 := Lib.hid H_O_1
    refine wp_open (n := 4) (by kernel_rfl) (by kernel_rfl) (by kernel_rfl) (by kernel_rfl) ?_
    simp only [List.take_succ_cons, List.take_zero]
    apply wpS_quiet
    · intro γ W hW hp
      have hs := hW.size
      (try simp only [World.size_alloc, World.size_setCell, World.size_drew, World.size_drewN'] at hs)
      have kx_0 := fun x : Over W => ((cellAt x.lies (w.heap.size + 1) (by omega) 0).trans (cellAt hW (w.heap.size + 1) (by first | omega | go_size) 0)).trans k_P_1_0
      have kx_1 := fun x : Over W => ((cellAt x.lies (w.heap.size + 1) (by omega) 1).trans (cellAt hW (w.heap.size + 1) (by first | omega | go_size) 1)).trans k_P_1_1
      have kx_2 := fun x : Over W => ((cellAt x.lies (w.heap.size + 1) (by omega) 2).trans (cellAt hW (w.heap.size + 1) (by first | omega | go_size) 2)).trans k_P_1_2
      clear hW hp
      refine ⟨rfl, ?_⟩
      go_big_quiet_op
      first | exact rfl
    · exact locS_const _
    try simp only [Act.put, List.setIfInBounds_toArray, List.set_cons_succ, List.set_cons_zero, Nat.reduceAdd]
    apply wpS_quiet
    · intro γ W hW hp
      have hs := hW.size
      (try simp only [World.size_alloc, World.size_setCell, World.size_drew, World.size_drewN'] at hs)
      have kx_0 := fun x : Over W => ((cellAt x.lies (w.heap.size + 1 + 1) (by omega) 0).trans (cellAt hW (w.heap.size + 1 + 1) (by first | omega | go_size) 0)).trans k_Q_1_0
      have kx_1 := fun x : Over W => ((cellAt x.lies (w.heap.size + 1 + 1) (by omega) 1).trans (cellAt hW (w.heap.size + 1 + 1) (by first | omega | go_size) 1)).trans k_Q_1_1
      have kx_2 := fun x : Over W => ((cellAt x.lies (w.heap.size + 1 + 1) (by omega) 2).trans (cellAt hW (w.heap.size + 1 + 1) (by first | omega | go_size) 2)).trans k_Q_1_2
      clear hW hp
      refine ⟨rfl, ?_⟩
      go_big_quiet_op
      first | exact rfl
    · exact locS_const _
    try simp only [Act.put, List.setIfInBounds_toArray, List.set_cons_succ, List.set_cons_zero, Nat.reduceAdd]
    apply wpS_quiet
    · intro γ W hW hp
      refine ⟨rfl, ?_⟩
      go_big_quiet_op
      apply Exists.intro
      refine ⟨fun x => ?_, ?_⟩
      · (first | (go_at_call 20; exact draw_of _ (opposite_any x2 y2 e2 _ (by omega))))
      exact rfl
    · exact locS_const _
    try simp only [Act.put, List.setIfInBounds_toArray, List.set_cons_succ, List.set_cons_zero, Nat.reduceAdd]
    apply wpS_quiet
    · intro γ W hW hp
      refine ⟨rfl, ?_⟩
      go_big_quiet_op
      first | exact rfl
    · exact locS_const _
    try simp only [Act.put, List.setIfInBounds_toArray, List.set_cons_succ, List.set_cons_zero, Nat.reduceAdd]
    apply wpS_end
    intro γ w2 hb2 hG2 hA2
    clear hG2 hA2
    simp only [List.drop_succ_cons, List.drop_zero]
    have hz2 := hb2.size
    (try simp only [World.size_alloc, World.size_setCell, World.size_drew, World.size_drewN'] at hz2)
    have H_C_2 := (hb2.block (w.heap.size) (blk_lt' H_C_1.out)).trans H_C_1.out
    clear k_C_1_0 k_C_1_1 f_C_1 H_C_1
    obtain ⟨k_C_2_0, k_C_2_1, f_C_2, l_C_2⟩ := bk2 H_C_2
    replace H_C_2 := Lib.hid H_C_2
    have H_P_2 := (hb2.block (w.heap.size + 1) (blk_lt' H_P_1.out)).trans H_P_1.out
    clear k_P_1_0 k_P_1_1 k_P_1_2 f_P_1 H_P_1
    obtain ⟨k_P_2_0, k_P_2_1, k_P_2_2, f_P_2, l_P_2⟩ := bk3 H_P_2
    replace H_P_2 := Lib.hid H_P_2
    have H_Q_2 := (hb2.block (w.heap.size + 1 + 1) (blk_lt' H_Q_1.out)).trans H_Q_1.out
    clear k_Q_1_0 k_Q_1_1 k_Q_1_2 f_Q_1 H_Q_1
    obtain ⟨k_Q_2_0, k_Q_2_1, k_Q_2_2, f_Q_2, l_Q_2⟩ := bk3 H_Q_2
    replace H_Q_2 := Lib.hid H_Q_2
    have H_O_2 := (hb2.block (w.heap.size + 1 + 1 + 1) (blk_lt' H_O_1.out)).trans H_O_1.out
    clear k_O_1_0 k_O_1_1 k_O_1_2 f_O_1 H_O_1
    obtain ⟨k_O_2_0, k_O_2_1, k_O_2_2, f_O_2, l_O_2⟩ := bk3 H_O_2
    replace H_O_2 := Lib.hid H_O_2
    have hB2 : Below w.heap.size w w2 := below_via hb2 (by assumption) (by go_size)
    iterate 24 (first | (with_reducible show bodyPost _ _ _ _ _ _) | (with_reducible refine wp_ret ?_) | go_values | go_skip | go_guarded | go_step | go_upon | go_back | skip)
    refine bodyPost_ret (v := .tuple #[.agg #[.int .i64 0, .int .i64 0, .int .i64 0], .bool true]) (by simp [results, Try.results21, go_sem, k_O_2_0, k_O_2_1, k_O_2_2]) rfl ⟨rfl, ?_⟩
    have HO := H_O_2.out
    (repeat' first | (with_reducible first | assumption | (apply Ne.symm; assumption) | apply Nat.le_refl | apply Nat.le_add_right | apply zL | apply zRf | apply Wx.box | apply Wx.box4 | apply zWa | apply Wx.drew | apply zWn | apply bx_drew | apply bx_drewN | apply bx_set3 | apply bx_set2 | apply bx_set4 | apply bx_set1) | ((with_reducible apply bx_new); (focus (go_size; done))) | (with_reducible first | apply zOl | apply zFa | apply zDn | apply zDr | apply zAl | apply zSt | refine zVi (by assumption) ?_ ?_) | go_size | omega)
  rw [show decide (x1 = x2 ∧ y1 = -y2 ∧ e1 = e2) = false by simpa using hz] at hq
  rw [ptS_thV hz1 hz2 hz] at hR
  have hzd : slD x1 y1 e1 x2 y2 e2 ≠ 0 := fun t => hz (HZ.1 t)
  have hcv := fun (e x : Int) he h => sl_curve (e := e) (x := x) he1.1 he2.1 hc1 hc2 hzd he h
  have hbd := sl_bd hA hx1 hx2 hy1 hy2 he1 he2
  have hb1 : -48000000000 ≤ slN A x1 y1 e1 x2 y2 e2 ∧ slN A x1 y1 e1 x2 y2 e2 ≤ 48000000000 := by unfold slN; split <;> omega
  have hb2 : -3200000000 ≤ slD x1 y1 e1 x2 y2 e2 ∧ slD x1 y1 e1 x2 y2 e2 ≤ 3200000000 := by unfold slD; split <;> omega
  have TS := fun W : World => Lib.hid (slope_any A B x1 y1 e1 x2 y2 e2 W hA hx1 hx2 hy1 hy2 he1 he2)
  obtain ⟨n, m, hn0, hm0, hgp, hgn, hgm, hmz, hcop, hnb, hmb⟩ := td_low (slN A x1 y1 e1 x2 y2 e2) (slD x1 y1 e1 x2 y2 e2) hzd
  have TG := fun W : World => Lib.hid (gcd_any (slN A x1 y1 e1 x2 y2 e2) (slD x1 y1 e1 x2 y2 e2) W (by omega) (by omega) (by omega) (by omega))
  have hlow : ∀ r, Third n m x1 y1 e1 x2 e2 r → R = r := fun r h => by
    rw [← hR]
    have := thV_scaled (g := gcdI (slN A x1 y1 e1 x2 y2 e2) (slD x1 y1 e1 x2 y2 e2)) (by omega) hmz hz1 hz2 h
    rw [← hgn, ← hgm] at this
    exact this
  have hS : ∀ e x : Int, 1 ≤ e → thX n m x1 e1 x2 e2 e x → ∃ y, sdV n m x1 y1 e1 e x * e = (m*(e1*e1*e1))*y ∧ y*y = evV A B x e := by
    intro e x he ht
    have hg0 : gcdI (slN A x1 y1 e1 x2 y2 e2) (slD x1 y1 e1 x2 y2 e2) ≠ 0 := by omega
    have q := (thX_scale hg0 ..).2 ht
    rw [← hgn, ← hgm] at q
    obtain ⟨y, h1, h2⟩ := hcv e x he q
    exact ⟨y, (sd_scale hg0 ..).1 (by rw [← hgn, ← hgm]; exact h1), h2⟩
  have hthb := fun (e x : Int) (h3 : 1 ≤ e ∧ e ≤ 20) (hx : -10000 ≤ x ∧ x ≤ 10000) ht => third_bd (n := n) (d := m) (e := e) (x := x) hcop hmz he1 he2 h3 hx1 hx2 hx ht
  have HD0 := Lib.hid hn0
  clear hcv hgn hgm HZ hp hc1 hc2 hg1 hg2 hbd hR hz hzd hcop
  generalize slN A x1 y1 e1 x2 y2 e2 = N at *
  generalize slD x1 y1 e1 x2 y2 e2 = M at *
  generalize gcdI N M = g at *
  have hgz : g ≠ 0 := by omega
  have hn : -48000000000 ≤ n ∧ n ≤ 48000000000 := by omega
  have hm : -3200000000 ≤ m ∧ m ≤ 3200000000 := by omega
  have HHN := Lib.hid hn0
  have HHM := Lib.hid hm0
  clear hnb hmb hn0 hm0 HD0
  have HS := Lib.hid hS
  have HL := Lib.hid hlow
  have HTB := Lib.hid hthb
  clear hS hlow hthb
  have tok1 : True := trivial
  have tok2 : True := trivial
  have tok3 : True := trivial
  have tok4 : True := trivial
  have tok5 : True := trivial
  have tok6 : True := trivial
  have tok7 : True := trivial
  have tok8 : True := trivial
  have tok9 : True := trivial
  have tok10 : True := trivial
  have tok11 : True := trivial
  have tok12 : True := trivial
  have tok13 : True := trivial
  have tok14 : True := trivial
  have tok15 : True := trivial
  have tok16 : True := trivial
  have tok17 : True := trivial
  have tok18 : True := trivial
  have tok19 : True := trivial
  have tok20 : True := trivial
  have tok21 : True := trivial
  have tok22 : True := trivial
  have tok23 : True := trivial
  have tok24 : True := trivial
  have tok25 : True := trivial
  have tok26 : True := trivial
  have tok27 : True := trivial
  have tok28 : True := trivial
  have tok29 : True := trivial
  have tok30 : True := trivial
  go_enter Try.func21, Try.ntmps21
  go_upto_region 5 with fail
  refine chk (fun W => Below w.heap.size w W ∧ W.heap[w.heap.size]? = some (.cells #[.int .i64 A, .int .i64 B] 29 (0, 0)) ∧ W.heap[w.heap.size + 1]? = some (.cells #[.int .i64 x1, .int .i64 y1, .int .i64 e1] 31 (0, 0)) ∧ W.heap[w.heap.size + 1 + 1]? = some (.cells #[.int .i64 x2, .int .i64 y2, .int .i64 e2] 31 (0, 0)) ∧ W.heap[w.heap.size + 1 + 1 + 1]? = some (.cells #[.int .i64 0, .int .i64 0, .int .i64 0] 31 (0, 0))) (by refine ⟨?_, ?_, ?_, ?_, ?_⟩ <;> (repeat' first | (with_reducible first | assumption | (apply Ne.symm; assumption) | apply Nat.le_refl | apply Nat.le_add_right | apply zL | apply zRf | apply Wx.box | apply Wx.box4 | apply zWa | apply Wx.drew | apply zWn | apply bx_drew | apply bx_drewN | apply bx_set3 | apply bx_set2 | apply bx_set4 | apply bx_set1) | ((with_reducible apply bx_new); (focus (go_size; done))) | (with_reducible first | apply zOl | apply zFa | apply zDn | apply zDr | apply zAl | apply zSt | refine zVi (by assumption) ?_ ?_) | go_size | omega)) ?_
  rintro w1 ⟨hB1, H_C_1, H_P_1, H_Q_1, H_O_1⟩
  obtain ⟨k_C_1_0, k_C_1_1, f_C_1, l_C_1⟩ := bk2 H_C_1
  replace H_C_1 := Lib.hid H_C_1
  obtain ⟨k_P_1_0, k_P_1_1, k_P_1_2, f_P_1, l_P_1⟩ := bk3 H_P_1
  replace H_P_1 := Lib.hid H_P_1
  obtain ⟨k_Q_1_0, k_Q_1_1, k_Q_1_2, f_Q_1, l_Q_1⟩ := bk3 H_Q_1
  replace H_Q_1 := Lib.hid H_Q_1
  obtain ⟨k_O_1_0, k_O_1_1, k_O_1_2, f_O_1, l_O_1⟩ := bk3 H_O_1
  replace H_O_1 := Lib.hid H_O_1
  refine wp_open (n := 4) (by kernel_rfl) (by kernel_rfl) (by kernel_rfl) (by kernel_rfl) ?_
  simp only [List.take_succ_cons, List.take_zero]
  apply wpS_quiet
  · intro γ W hW hp
    have hs := hW.size
    (try simp only [World.size_alloc, World.size_setCell, World.size_drew, World.size_drewN'] at hs)
    have kx_0 := fun x : Over W => ((cellAt x.lies (w.heap.size + 1) (by omega) 0).trans (cellAt hW (w.heap.size + 1) (by first | omega | go_size) 0)).trans k_P_1_0
    have kx_1 := fun x : Over W => ((cellAt x.lies (w.heap.size + 1) (by omega) 1).trans (cellAt hW (w.heap.size + 1) (by first | omega | go_size) 1)).trans k_P_1_1
    have kx_2 := fun x : Over W => ((cellAt x.lies (w.heap.size + 1) (by omega) 2).trans (cellAt hW (w.heap.size + 1) (by first | omega | go_size) 2)).trans k_P_1_2
    clear hW hp
    refine ⟨rfl, ?_⟩
    go_big_quiet_op
    first | exact rfl
  · exact locS_const _
  try simp only [Act.put, List.setIfInBounds_toArray, List.set_cons_succ, List.set_cons_zero, Nat.reduceAdd]
  apply wpS_quiet
  · intro γ W hW hp
    have hs := hW.size
    (try simp only [World.size_alloc, World.size_setCell, World.size_drew, World.size_drewN'] at hs)
    have kx_0 := fun x : Over W => ((cellAt x.lies (w.heap.size + 1 + 1) (by omega) 0).trans (cellAt hW (w.heap.size + 1 + 1) (by first | omega | go_size) 0)).trans k_Q_1_0
    have kx_1 := fun x : Over W => ((cellAt x.lies (w.heap.size + 1 + 1) (by omega) 1).trans (cellAt hW (w.heap.size + 1 + 1) (by first | omega | go_size) 1)).trans k_Q_1_1
    have kx_2 := fun x : Over W => ((cellAt x.lies (w.heap.size + 1 + 1) (by omega) 2).trans (cellAt hW (w.heap.size + 1 + 1) (by first | omega | go_size) 2)).trans k_Q_1_2
    clear hW hp
    refine ⟨rfl, ?_⟩
    go_big_quiet_op
    first | exact rfl
  · exact locS_const _
  try simp only [Act.put, List.setIfInBounds_toArray, List.set_cons_succ, List.set_cons_zero, Nat.reduceAdd]
  apply wpS_quiet
  · intro γ W hW hp
    refine ⟨rfl, ?_⟩
    go_big_quiet_op
    apply Exists.intro
    refine ⟨fun x => ?_, ?_⟩
    · (first | (go_at_call 20; exact draw_of _ (opposite_any x2 y2 e2 _ (by omega))))
    exact rfl
  · exact locS_const _
  try simp only [Act.put, List.setIfInBounds_toArray, List.set_cons_succ, List.set_cons_zero, Nat.reduceAdd]
  apply wpS_quiet
  · intro γ W hW hp
    refine ⟨rfl, ?_⟩
    go_big_quiet_op
    first | exact rfl
  · exact locS_const _
  try simp only [Act.put, List.setIfInBounds_toArray, List.set_cons_succ, List.set_cons_zero, Nat.reduceAdd]
  apply wpS_end
  intro γ w2 hb2 hG2 hA2
  clear hG2 hA2
  simp only [List.drop_succ_cons, List.drop_zero]
  have hz2 := hb2.size
  (try simp only [World.size_alloc, World.size_setCell, World.size_drew, World.size_drewN'] at hz2)
  have H_C_2 := (hb2.block (w.heap.size) (blk_lt' H_C_1.out)).trans H_C_1.out
  clear k_C_1_0 k_C_1_1 f_C_1 H_C_1
  obtain ⟨k_C_2_0, k_C_2_1, f_C_2, l_C_2⟩ := bk2 H_C_2
  replace H_C_2 := Lib.hid H_C_2
  have H_P_2 := (hb2.block (w.heap.size + 1) (blk_lt' H_P_1.out)).trans H_P_1.out
  clear k_P_1_0 k_P_1_1 k_P_1_2 f_P_1 H_P_1
  obtain ⟨k_P_2_0, k_P_2_1, k_P_2_2, f_P_2, l_P_2⟩ := bk3 H_P_2
  replace H_P_2 := Lib.hid H_P_2
  have H_Q_2 := (hb2.block (w.heap.size + 1 + 1) (blk_lt' H_Q_1.out)).trans H_Q_1.out
  clear k_Q_1_0 k_Q_1_1 k_Q_1_2 f_Q_1 H_Q_1
  obtain ⟨k_Q_2_0, k_Q_2_1, k_Q_2_2, f_Q_2, l_Q_2⟩ := bk3 H_Q_2
  replace H_Q_2 := Lib.hid H_Q_2
  have H_O_2 := (hb2.block (w.heap.size + 1 + 1 + 1) (blk_lt' H_O_1.out)).trans H_O_1.out
  clear k_O_1_0 k_O_1_1 k_O_1_2 f_O_1 H_O_1
  obtain ⟨k_O_2_0, k_O_2_1, k_O_2_2, f_O_2, l_O_2⟩ := bk3 H_O_2
  replace H_O_2 := Lib.hid H_O_2
  have hB2 : Below w.heap.size w w2 := below_via hb2 (by assumption) (by go_size)
  clear hq
  go_upto_region 8 with (first | (have _t := tok3; go_at_call 35; (with_reducible refine ((TS _).out).mono ?_); rintro e w3 ⟨rfl, hb3⟩; clear tok3 _t; have hz3 := hb3.size; (try simp only [World.size_alloc, World.size_setCell, World.size_drew, World.size_drewN'] at hz3)) | (go_at_call 32; (with_reducible refine ((TG _).out).mono ?_); rintro e w' ⟨rfl, nq, rfl⟩))
  have H_C_3 := (hb3.block (w.heap.size) (blk_lt' H_C_2.out)).trans H_C_2.out
  clear k_C_2_0 k_C_2_1 f_C_2 H_C_2
  obtain ⟨k_C_3_0, k_C_3_1, f_C_3, l_C_3⟩ := bk2 H_C_3
  replace H_C_3 := Lib.hid H_C_3
  have H_P_3 := (hb3.block (w.heap.size + 1) (blk_lt' H_P_2.out)).trans H_P_2.out
  clear k_P_2_0 k_P_2_1 k_P_2_2 f_P_2 H_P_2
  obtain ⟨k_P_3_0, k_P_3_1, k_P_3_2, f_P_3, l_P_3⟩ := bk3 H_P_3
  replace H_P_3 := Lib.hid H_P_3
  have H_Q_3 := (hb3.block (w.heap.size + 1 + 1) (blk_lt' H_Q_2.out)).trans H_Q_2.out
  clear k_Q_2_0 k_Q_2_1 k_Q_2_2 f_Q_2 H_Q_2
  obtain ⟨k_Q_3_0, k_Q_3_1, k_Q_3_2, f_Q_3, l_Q_3⟩ := bk3 H_Q_3
  replace H_Q_3 := Lib.hid H_Q_3
  have H_O_3 := (hb3.block (w.heap.size + 1 + 1 + 1) (blk_lt' H_O_2.out)).trans H_O_2.out
  clear k_O_2_0 k_O_2_1 k_O_2_2 f_O_2 H_O_2
  obtain ⟨k_O_3_0, k_O_3_1, k_O_3_2, f_O_3, l_O_3⟩ := bk3 H_O_3
  replace H_O_3 := Lib.hid H_O_3
  have hB3 : Below w.heap.size w w3 := below_via hb3 (by assumption) (by go_size)
  clear TS
  go_upto_region 9 with (first | (have _t := tok3; go_at_call 35; (with_reducible refine ((TS _).out).mono ?_); rintro e w3 ⟨rfl, hb3⟩; clear tok3 _t; have hz3 := hb3.size; (try simp only [World.size_alloc, World.size_setCell, World.size_drew, World.size_drewN'] at hz3)) | (go_at_call 32; (with_reducible refine ((TG _).out).mono ?_); rintro e w' ⟨rfl, nq, rfl⟩))
  go_region
  rw [HHN.out, HHM.out]
  clear TG HHN HHM hgz hgp hb1 hb2
  have lm : ln m ≤ 10000 := Nat.le_trans (ln_small (by omega) (by omega)) (by omega)
  have lnn : ln n ≤ 10000 := Nat.le_trans (ln_small (by omega) (by omega)) (by omega)
  have lm5 : ln m ≤ 5 := ln_small (by omega) (by omega)
  have ln5 : ln n ≤ 5 := ln_small (by omega) (by omega)
  have TM := fun W : World => wholeOf_any m W (by omega) (by omega)
  have TN := fun W : World => wholeOf_any n W (by omega) (by omega)
  obtain ⟨mm, hmm⟩ : ∃ v, m * m = v := ⟨_, rfl⟩
  obtain ⟨nn, hnn⟩ : ∃ v, n * n = v := ⟨_, rfl⟩
  obtain ⟨ee, hee0⟩ : ∃ v, e1*e1*e2*e2 = v := ⟨_, rfl⟩
  obtain ⟨sm, hsm⟩ : ∃ v, x1*e2*e2 + x2*e1*e1 = v := ⟨_, rfl⟩
  obtain ⟨t1, ht10⟩ : ∃ v, nn * ee = v := ⟨_, rfl⟩
  obtain ⟨t2, ht2⟩ : ∃ v, mm * sm = v := ⟨_, rfl⟩
  obtain ⟨t, ht⟩ : ∃ v, t1 + -t2 = v := ⟨_, rfl⟩
  obtain ⟨bo, hbo0⟩ : ∃ v, mm * ee = v := ⟨_, rfl⟩
  have wk1 := mul_bd (a := e1) (b := e1) (A := 20) (B := 20) (by omega) (by omega)
  have wk2 := mul_bd (a := e1*e1) (b := e2) (A := 400) (B := 20) (by omega) (by omega)
  have wk3 := mul_bd (a := e1*e1*e2) (b := e2) (A := 8000) (B := 20) (by omega) (by omega)
  have wk4 := mul_bd (a := x1) (b := e2) (A := 10000) (B := 20) (by omega) (by omega)
  have wk5 := mul_bd (a := x1*e2) (b := e2) (A := 200000) (B := 20) (by omega) (by omega)
  have wk6 := mul_bd (a := x2) (b := e1) (A := 10000) (B := 20) (by omega) (by omega)
  have wk7 := mul_bd (a := x2*e1) (b := e1) (A := 200000) (B := 20) (by omega) (by omega)
  have TE := fun W : World => wholeOf_any (e1*e1*e2*e2) W (by omega) (by omega)
  have TU := fun W : World => wholeOf_any (x1*e2*e2 + x2*e1*e1) W (by omega) (by omega)
  have q1 : ln ee ≤ 5 := by rw [← hee0]; exact ln_small (by omega) (by omega)
  have q2 : ln sm ≤ 5 := by rw [← hsm]; exact ln_small (by omega) (by omega)
  have q3 : ln mm ≤ 10 := by rw [← hmm]; exact ln_mul_le lm5 lm5
  have q4 : ln nn ≤ 10 := by rw [← hnn]; exact ln_mul_le ln5 ln5
  have q5 : ln t1 ≤ 15 := by rw [← ht10]; exact ln_mul_le q4 q1
  have q6 : ln t2 ≤ 15 := by rw [← ht2]; exact ln_mul_le q3 q2
  have q7 : ln t ≤ 16 := by rw [← ht]; exact ln_add_le q5 (by rw [ln_neg]; exact q6)
  have q8 : ln bo ≤ 15 := by rw [← hbo0]; exact ln_mul_le q3 q1
  have l1 : ln nn ≤ 10000 := by omega
  have l2 : ln ee ≤ 10000 := by omega
  have l3 : ln mm ≤ 10000 := by omega
  have l4 : ln sm ≤ 10000 := by omega
  have l5 : ln t1 ≤ 10000 := by omega
  have l6 : ln (-t2) ≤ 10000 := by rw [ln_neg]; omega
  have HBP := Lib.hid (show 0 < bo by
    have h1 : 0 < m * m := by rcases Int.lt_or_lt_of_ne hmz with h | h; exact Int.mul_pos_of_neg_of_neg h h; exact Int.mul_pos h h
    have h2 : 0 < e1*e1*e2*e2 := Int.mul_pos (Int.mul_pos (Int.mul_pos (by omega) (by omega)) (by omega)) (by omega)
    rw [← hbo0, ← hmm, ← hee0]; exact Int.mul_pos h1 h2)
  have HX := Lib.hid (show ∀ e x : Int, bo * x = t * (e * e) ↔ thX n m x1 e1 x2 e2 e x from fun e x => by
    rw [← hbo0, ← ht, ← ht10, ← ht2, ← hmm, ← hnn, ← hee0, ← hsm]; exact imp_thX)
  rw [hee0] at TE
  rw [hsm] at TU
  have HM2 := Lib.hid hmm
  have HNN := Lib.hid hnn
  have HT1 := Lib.hid ht10
  have HT2 := Lib.hid ht2
  have HT := Lib.hid ht
  have HB := Lib.hid hbo0
  have HE0 := hee0
  have HS0 := hsm
  clear hmm hnn ht10 ht2 ht hbo0 hee0 hsm
  go_upto_region 10 with fail
  replace H_C_3 := H_C_3.out
  replace H_P_3 := H_P_3.out
  replace H_Q_3 := H_Q_3.out
  replace H_O_3 := H_O_3.out
  refine chk (fun W => Below w.heap.size w W ∧ W.heap[w.heap.size]? = some (.cells #[.int .i64 A, .int .i64 B] 29 (0, 0)) ∧ W.heap[w.heap.size + 1]? = some (.cells #[.int .i64 x1, .int .i64 y1, .int .i64 e1] 31 (0, 0)) ∧ W.heap[w.heap.size + 1 + 1]? = some (.cells #[.int .i64 x2, .int .i64 y2, .int .i64 e2] 31 (0, 0)) ∧ W.heap[w.heap.size + 1 + 1 + 1]? = some (.cells #[.int .i64 0, .int .i64 0, .int .i64 0] 31 (0, 0))) (by refine ⟨?_, ?_, ?_, ?_, ?_⟩ <;> (repeat' first | (with_reducible first | assumption | (apply Ne.symm; assumption) | apply Nat.le_refl | apply Nat.le_add_right | apply zL | apply zRf | apply Wx.box | apply Wx.box4 | apply zWa | apply Wx.drew | apply zWn | apply bx_drew | apply bx_drewN | apply bx_set3 | apply bx_set2 | apply bx_set4 | apply bx_set1) | ((with_reducible apply bx_new); (focus (go_size; done))) | (with_reducible first | apply zOl | apply zFa | apply zDn | apply zDr | apply zAl | apply zSt | refine zVi (by assumption) ?_ ?_) | go_size | omega)) ?_
  clear k_C_3_0 k_C_3_1 f_C_3 H_C_3
  clear k_P_3_0 k_P_3_1 k_P_3_2 f_P_3 H_P_3
  clear k_Q_3_0 k_Q_3_1 k_Q_3_2 f_Q_3 H_Q_3
  clear k_O_3_0 k_O_3_1 k_O_3_2 f_O_3 H_O_3
  clear hB3
  rintro w40 ⟨hB40, H_C_40, H_P_40, H_Q_40, H_O_40⟩
  obtain ⟨k_C_40_0, k_C_40_1, f_C_40, l_C_40⟩ := bk2 H_C_40
  replace H_C_40 := Lib.hid H_C_40
  obtain ⟨k_P_40_0, k_P_40_1, k_P_40_2, f_P_40, l_P_40⟩ := bk3 H_P_40
  replace H_P_40 := Lib.hid H_P_40
  obtain ⟨k_Q_40_0, k_Q_40_1, k_Q_40_2, f_Q_40, l_Q_40⟩ := bk3 H_Q_40
  replace H_Q_40 := Lib.hid H_Q_40
  obtain ⟨k_O_40_0, k_O_40_1, k_O_40_2, f_O_40, l_O_40⟩ := bk3 H_O_40
  replace H_O_40 := Lib.hid H_O_40
  go_upto_region 11 with (first | (have _t := tok4; go_at_call 37; (with_reducible refine ((TM _)).mono ?_); rintro e w4 ⟨b4, a4, n4, c4, rfl, h4, f4, hb4⟩; clear tok4 _t; have hz4 := hb4.size; (try simp only [World.size_alloc, World.size_setCell, World.size_drew, World.size_drewN'] at hz4)) | (have _t := tok5; go_at_call 37; (with_reducible refine ((TM _)).mono ?_); rintro e w5 ⟨b5, a5, n5, c5, rfl, h5, f5, hb5⟩; clear tok5 _t; have hz5 := hb5.size; (try simp only [World.size_alloc, World.size_setCell, World.size_drew, World.size_drewN'] at hz5)) | (have _t := tok6; go_at_call 36; refine (mulWholes_eq (h4.below hb5) h5 HM2.out lm lm).mono ?_; rintro e w6 ⟨b6, a6, n6, c6, rfl, hm2, f6, hb6⟩; clear tok6 _t; have hz6 := hb6.size; (try simp only [World.size_alloc, World.size_setCell, World.size_drew, World.size_drewN'] at hz6)))
  replace hb6 := below_via hb6 (below_via hb5 hb4 (by have := hb4.size; omega)) (by have := hb4.size; have := hb5.size; omega)
  have H_C_6 := (hb6.block (w.heap.size) (blk_lt' H_C_40.out)).trans H_C_40.out
  clear k_C_40_0 k_C_40_1 f_C_40 H_C_40
  obtain ⟨k_C_6_0, k_C_6_1, f_C_6, l_C_6⟩ := bk2 H_C_6
  replace H_C_6 := Lib.hid H_C_6
  have H_P_6 := (hb6.block (w.heap.size + 1) (blk_lt' H_P_40.out)).trans H_P_40.out
  clear k_P_40_0 k_P_40_1 k_P_40_2 f_P_40 H_P_40
  obtain ⟨k_P_6_0, k_P_6_1, k_P_6_2, f_P_6, l_P_6⟩ := bk3 H_P_6
  replace H_P_6 := Lib.hid H_P_6
  have H_Q_6 := (hb6.block (w.heap.size + 1 + 1) (blk_lt' H_Q_40.out)).trans H_Q_40.out
  clear k_Q_40_0 k_Q_40_1 k_Q_40_2 f_Q_40 H_Q_40
  obtain ⟨k_Q_6_0, k_Q_6_1, k_Q_6_2, f_Q_6, l_Q_6⟩ := bk3 H_Q_6
  replace H_Q_6 := Lib.hid H_Q_6
  have H_O_6 := (hb6.block (w.heap.size + 1 + 1 + 1) (blk_lt' H_O_40.out)).trans H_O_40.out
  clear k_O_40_0 k_O_40_1 k_O_40_2 f_O_40 H_O_40
  obtain ⟨k_O_6_0, k_O_6_1, k_O_6_2, f_O_6, l_O_6⟩ := bk3 H_O_6
  replace H_O_6 := Lib.hid H_O_6
  have hB6 : Below w.heap.size w w6 := below_via hb6 (by assumption) (by go_size)
  clear h4 h5 f4 f5 f6 hb4 hb5
  replace H_C_6 := H_C_6.out
  replace H_P_6 := H_P_6.out
  replace H_Q_6 := H_Q_6.out
  replace H_O_6 := H_O_6.out
  refine chk (fun W => Below w.heap.size w W ∧ W.heap[w.heap.size]? = some (.cells #[.int .i64 A, .int .i64 B] 29 (0, 0)) ∧ W.heap[w.heap.size + 1]? = some (.cells #[.int .i64 x1, .int .i64 y1, .int .i64 e1] 31 (0, 0)) ∧ W.heap[w.heap.size + 1 + 1]? = some (.cells #[.int .i64 x2, .int .i64 y2, .int .i64 e2] 31 (0, 0)) ∧ W.heap[w.heap.size + 1 + 1 + 1]? = some (.cells #[.int .i64 0, .int .i64 0, .int .i64 0] 31 (0, 0)) ∧ W.heap[w6.heap.size]? = some (.cells #[.bool b6, .slice a6 n6 c6] 55 (0, 0)) ∧ Wx W b6 a6 n6 c6 mm) (by refine ⟨?_, ?_, ?_, ?_, ?_, ?_, ?_⟩ <;> (repeat' first | (with_reducible first | assumption | (apply Ne.symm; assumption) | apply Nat.le_refl | apply Nat.le_add_right | apply zL | apply zRf | apply Wx.box | apply Wx.box4 | apply zWa | apply Wx.drew | apply zWn | apply bx_drew | apply bx_drewN | apply bx_set3 | apply bx_set2 | apply bx_set4 | apply bx_set1) | ((with_reducible apply bx_new); (focus (go_size; done))) | (with_reducible first | apply zOl | apply zFa | apply zDn | apply zDr | apply zAl | apply zSt | refine zVi (by assumption) ?_ ?_) | go_size | omega)) ?_
  try clear hm2
  clear k_C_6_0 k_C_6_1 f_C_6 H_C_6
  clear k_P_6_0 k_P_6_1 k_P_6_2 f_P_6 H_P_6
  clear k_Q_6_0 k_Q_6_1 k_Q_6_2 f_Q_6 H_Q_6
  clear k_O_6_0 k_O_6_1 k_O_6_2 f_O_6 H_O_6
  clear hB6
  rintro w7 ⟨hB7, H_C_7, H_P_7, H_Q_7, H_O_7, H_M_7, hm2'⟩
  obtain ⟨k_C_7_0, k_C_7_1, f_C_7, l_C_7⟩ := bk2 H_C_7
  replace H_C_7 := Lib.hid H_C_7
  obtain ⟨k_P_7_0, k_P_7_1, k_P_7_2, f_P_7, l_P_7⟩ := bk3 H_P_7
  replace H_P_7 := Lib.hid H_P_7
  obtain ⟨k_Q_7_0, k_Q_7_1, k_Q_7_2, f_Q_7, l_Q_7⟩ := bk3 H_Q_7
  replace H_Q_7 := Lib.hid H_Q_7
  obtain ⟨k_O_7_0, k_O_7_1, k_O_7_2, f_O_7, l_O_7⟩ := bk3 H_O_7
  replace H_O_7 := Lib.hid H_O_7
  obtain ⟨k_M_7_0, k_M_7_1, f_M_7, l_M_7⟩ := bk2 H_M_7
  replace H_M_7 := Lib.hid H_M_7
  have hm2 := hm2'
  clear hm2'
  go_upto_region 12 with (first | (have _t := tok8; go_at_call 37; (with_reducible refine ((TE _)).mono ?_); rintro e w8 ⟨b8, a8, n8, c8, rfl, hee, f8, hb8⟩; clear tok8 _t; have hz8 := hb8.size; (try simp only [World.size_alloc, World.size_setCell, World.size_drew, World.size_drewN'] at hz8)))
  have H_C_8 := (hb8.block (w.heap.size) (blk_lt' H_C_7.out)).trans H_C_7.out
  clear k_C_7_0 k_C_7_1 f_C_7 H_C_7
  obtain ⟨k_C_8_0, k_C_8_1, f_C_8, l_C_8⟩ := bk2 H_C_8
  replace H_C_8 := Lib.hid H_C_8
  have H_P_8 := (hb8.block (w.heap.size + 1) (blk_lt' H_P_7.out)).trans H_P_7.out
  clear k_P_7_0 k_P_7_1 k_P_7_2 f_P_7 H_P_7
  obtain ⟨k_P_8_0, k_P_8_1, k_P_8_2, f_P_8, l_P_8⟩ := bk3 H_P_8
  replace H_P_8 := Lib.hid H_P_8
  have H_Q_8 := (hb8.block (w.heap.size + 1 + 1) (blk_lt' H_Q_7.out)).trans H_Q_7.out
  clear k_Q_7_0 k_Q_7_1 k_Q_7_2 f_Q_7 H_Q_7
  obtain ⟨k_Q_8_0, k_Q_8_1, k_Q_8_2, f_Q_8, l_Q_8⟩ := bk3 H_Q_8
  replace H_Q_8 := Lib.hid H_Q_8
  have H_O_8 := (hb8.block (w.heap.size + 1 + 1 + 1) (blk_lt' H_O_7.out)).trans H_O_7.out
  clear k_O_7_0 k_O_7_1 k_O_7_2 f_O_7 H_O_7
  obtain ⟨k_O_8_0, k_O_8_1, k_O_8_2, f_O_8, l_O_8⟩ := bk3 H_O_8
  replace H_O_8 := Lib.hid H_O_8
  have H_M_8 := (hb8.block (w6.heap.size) (blk_lt' H_M_7.out)).trans H_M_7.out
  clear k_M_7_0 k_M_7_1 f_M_7 H_M_7
  obtain ⟨k_M_8_0, k_M_8_1, f_M_8, l_M_8⟩ := bk2 H_M_8
  replace H_M_8 := Lib.hid H_M_8
  replace hm2 := hm2.below hb8
  have hB8 : Below w.heap.size w w8 := below_via hb8 (by assumption) (by go_size)
  clear f8 TM TE
  replace H_C_8 := H_C_8.out
  replace H_P_8 := H_P_8.out
  replace H_Q_8 := H_Q_8.out
  replace H_O_8 := H_O_8.out
  replace H_M_8 := H_M_8.out
  refine chk (fun W => Below w.heap.size w W ∧ W.heap[w.heap.size]? = some (.cells #[.int .i64 A, .int .i64 B] 29 (0, 0)) ∧ W.heap[w.heap.size + 1]? = some (.cells #[.int .i64 x1, .int .i64 y1, .int .i64 e1] 31 (0, 0)) ∧ W.heap[w.heap.size + 1 + 1]? = some (.cells #[.int .i64 x2, .int .i64 y2, .int .i64 e2] 31 (0, 0)) ∧ W.heap[w.heap.size + 1 + 1 + 1]? = some (.cells #[.int .i64 0, .int .i64 0, .int .i64 0] 31 (0, 0)) ∧ W.heap[w6.heap.size]? = some (.cells #[.bool b6, .slice a6 n6 c6] 55 (0, 0)) ∧ W.heap[w8.heap.size]? = some (.cells #[.bool b8, .slice a8 n8 c8] 55 (0, 0)) ∧ Wx W b6 a6 n6 c6 mm ∧ Wx W b8 a8 n8 c8 ee) (by refine ⟨?_, ?_, ?_, ?_, ?_, ?_, ?_, ?_, ?_⟩ <;> (repeat' first | (with_reducible first | assumption | (apply Ne.symm; assumption) | apply Nat.le_refl | apply Nat.le_add_right | apply zL | apply zRf | apply Wx.box | apply Wx.box4 | apply zWa | apply Wx.drew | apply zWn | apply bx_drew | apply bx_drewN | apply bx_set3 | apply bx_set2 | apply bx_set4 | apply bx_set1) | ((with_reducible apply bx_new); (focus (go_size; done))) | (with_reducible first | apply zOl | apply zFa | apply zDn | apply zDr | apply zAl | apply zSt | refine zVi (by assumption) ?_ ?_) | go_size | omega)) ?_
  try clear hm2
  try clear hee
  clear k_C_8_0 k_C_8_1 f_C_8 H_C_8
  clear k_P_8_0 k_P_8_1 k_P_8_2 f_P_8 H_P_8
  clear k_Q_8_0 k_Q_8_1 k_Q_8_2 f_Q_8 H_Q_8
  clear k_O_8_0 k_O_8_1 k_O_8_2 f_O_8 H_O_8
  clear k_M_8_0 k_M_8_1 f_M_8 H_M_8
  clear hB8
  rintro w9 ⟨hB9, H_C_9, H_P_9, H_Q_9, H_O_9, H_M_9, H_E_9, hm2', hee'⟩
  obtain ⟨k_C_9_0, k_C_9_1, f_C_9, l_C_9⟩ := bk2 H_C_9
  replace H_C_9 := Lib.hid H_C_9
  obtain ⟨k_P_9_0, k_P_9_1, k_P_9_2, f_P_9, l_P_9⟩ := bk3 H_P_9
  replace H_P_9 := Lib.hid H_P_9
  obtain ⟨k_Q_9_0, k_Q_9_1, k_Q_9_2, f_Q_9, l_Q_9⟩ := bk3 H_Q_9
  replace H_Q_9 := Lib.hid H_Q_9
  obtain ⟨k_O_9_0, k_O_9_1, k_O_9_2, f_O_9, l_O_9⟩ := bk3 H_O_9
  replace H_O_9 := Lib.hid H_O_9
  obtain ⟨k_M_9_0, k_M_9_1, f_M_9, l_M_9⟩ := bk2 H_M_9
  replace H_M_9 := Lib.hid H_M_9
  obtain ⟨k_E_9_0, k_E_9_1, f_E_9, l_E_9⟩ := bk2 H_E_9
  replace H_E_9 := Lib.hid H_E_9
  have hm2 := hm2'
  clear hm2'
  have hee := hee'
  clear hee'
  refine wp_open (n := 8) (by kernel_rfl) (by kernel_rfl) (by kernel_rfl) (by kernel_rfl) ?_
  simp only [List.take_succ_cons, List.take_zero]
  apply wpS_quiet
  · intro γ W hW hp
    refine ⟨rfl, ?_⟩
    go_big_quiet_op
    first | exact rfl
  · exact locS_const _
  try simp only [Act.put, List.setIfInBounds_toArray, List.set_cons_succ, List.set_cons_zero, Nat.reduceAdd]
  apply wpS_open (openW w.heap.size n)
  · intro γ W hW hp
    refine ⟨rfl, ?_⟩
    go_simp
    refine plainNew rfl ?_
    exact open_W (TN _) (by (have := hW.size; (try simp only [World.size_alloc, World.size_setCell, World.size_drew, World.size_drewN'] at this); omega))
  try simp only [Act.put, List.setIfInBounds_toArray, List.set_cons_succ, List.set_cons_zero, Nat.reduceAdd]
  apply wpS_quiet
  · intro γ W hW hp
    refine ⟨rfl, ?_⟩
    go_big_quiet_op
    first | exact rfl
  · exact locS_const _
  try simp only [Act.put, List.setIfInBounds_toArray, List.set_cons_succ, List.set_cons_zero, Nat.reduceAdd]
  apply wpS_open (openW w.heap.size n)
  · intro γ W hW hp
    refine ⟨rfl, ?_⟩
    go_simp
    refine plainNew rfl ?_
    exact open_W (TN _) (by (have := hW.size; (try simp only [World.size_alloc, World.size_setCell, World.size_drew, World.size_drewN'] at this); omega))
  try simp only [Act.put, List.setIfInBounds_toArray, List.set_cons_succ, List.set_cons_zero, Nat.reduceAdd]
  apply wpS_open (openW w.heap.size nn)
  · intro γ W hW hp
    have hp_1 := hp _ (List.mem_append_left _ (List.mem_append_right _ (List.mem_singleton.2 rfl))) (by kernel_rfl)
    dsimp only at hp_1
    have hp_3 := hp _ (List.mem_append_right _ (List.mem_singleton.2 rfl)) (by kernel_rfl)
    dsimp only at hp_3
    refine ⟨rfl, ?_⟩
    go_simp
    refine plainNew rfl ?_
    obtain ⟨b3, a3, n3, c3, e3, h3, _⟩ := hp_1
    obtain ⟨b4, a4, n4, c4, e4, h4, _⟩ := hp_3
    rw [e3, e4]
    exact open_W (mulWholes_eq h3 h4 HNN.out lnn lnn) (by (have := hW.size; (try simp only [World.size_alloc, World.size_setCell, World.size_drew, World.size_drewN'] at this); omega))
  try simp only [Act.put, List.setIfInBounds_toArray, List.set_cons_succ, List.set_cons_zero, Nat.reduceAdd]
  apply wpS_quiet
  · intro γ W hW hp
    have hs := hW.size
    (try simp only [World.size_alloc, World.size_setCell, World.size_drew, World.size_drewN'] at hs)
    have kx_0 := fun x : Over W => ((cellAt x.lies (w8.heap.size) (by omega) 0).trans (cellAt hW (w8.heap.size) (by first | omega | go_size) 0)).trans k_E_9_0
    have kx_1 := fun x : Over W => ((cellAt x.lies (w8.heap.size) (by omega) 1).trans (cellAt hW (w8.heap.size) (by first | omega | go_size) 1)).trans k_E_9_1
    clear hW hp
    refine ⟨rfl, ?_⟩
    go_big_quiet_op
    first | exact rfl
  · exact locS_const _
  try simp only [Act.put, List.setIfInBounds_toArray, List.set_cons_succ, List.set_cons_zero, Nat.reduceAdd]
  apply wpS_open (openW w.heap.size t1)
  · intro γ W hW hp
    have hp_4 := hp _ (List.mem_append_right _ (List.mem_singleton.2 rfl)) (by kernel_rfl)
    dsimp only at hp_4
    refine ⟨rfl, ?_⟩
    go_simp
    refine plainNew rfl ?_
    obtain ⟨b3, a3, n3, c3, e3, h3, _⟩ := hp_4
    rw [e3]
    exact open_W (mulWholes_eq h3 (hee.below hW) HT1.out l1 l2) (by (have := hW.size; (try simp only [World.size_alloc, World.size_setCell, World.size_drew, World.size_drewN'] at this); omega))
  try simp only [Act.put, List.setIfInBounds_toArray, List.set_cons_succ, List.set_cons_zero, Nat.reduceAdd]
  apply wpS_open (newBox _ _ _)
  · intro γ W hW hp
    refine ⟨rfl, ?_⟩
    go_simp
    exact ⟨⟨⟨_, rfl, hW.size, heap_alloc_new _ _⟩, fun _ => ⟨_, rfl, Nat.le_refl _, by simp⟩⟩, (Below.refl _ _).alloc (Nat.le_refl _) _⟩
  try simp only [Act.put, List.setIfInBounds_toArray, List.set_cons_succ, List.set_cons_zero, Nat.reduceAdd]
  apply wpS_end
  intro γ w10 hb10 hG10 hA10
  have hg10_1 := hG10 _ (List.mem_append_left _ (List.mem_append_left _ (List.mem_append_left _ (List.mem_append_left _ (List.mem_append_right _ (List.mem_singleton.2 rfl))))))
  dsimp only at hg10_1
  have hg10_3 := hG10 _ (List.mem_append_left _ (List.mem_append_left _ (List.mem_append_left _ (List.mem_append_right _ (List.mem_singleton.2 rfl)))))
  dsimp only at hg10_3
  have hg10_4 := hG10 _ (List.mem_append_left _ (List.mem_append_left _ (List.mem_append_right _ (List.mem_singleton.2 rfl))))
  dsimp only at hg10_4
  have hg10_6 := hG10 _ (List.mem_append_left _ (List.mem_append_right _ (List.mem_singleton.2 rfl)))
  dsimp only at hg10_6
  obtain ⟨g10_7, e10_7, l10_7, k10_7⟩ := hG10 _ (List.mem_append_right _ (List.mem_singleton.2 rfl))
  dsimp only at e10_7 l10_7 k10_7
  have kb10_7 := fun o => blk_cell k10_7 o
  have fb10_7 := fun o => blk_frozen k10_7 o
  have lb10_7 := blk_lt' k10_7
  have ne10_7_C : w.heap.size ≠ g10_7 := Nat.ne_of_lt (Nat.lt_of_lt_of_le l_C_9 l10_7)
  have ne10_7_P : w.heap.size + 1 ≠ g10_7 := Nat.ne_of_lt (Nat.lt_of_lt_of_le l_P_9 l10_7)
  have ne10_7_Q : w.heap.size + 1 + 1 ≠ g10_7 := Nat.ne_of_lt (Nat.lt_of_lt_of_le l_Q_9 l10_7)
  have ne10_7_O : w.heap.size + 1 + 1 + 1 ≠ g10_7 := Nat.ne_of_lt (Nat.lt_of_lt_of_le l_O_9 l10_7)
  have ne10_7_M : w6.heap.size ≠ g10_7 := Nat.ne_of_lt (Nat.lt_of_lt_of_le l_M_9 l10_7)
  have ne10_7_E : w8.heap.size ≠ g10_7 := Nat.ne_of_lt (Nat.lt_of_lt_of_le l_E_9 l10_7)
  have lw10_7 : w.heap.size ≤ g10_7 := Nat.le_trans hB9.size l10_7
  clear hG10 hA10
  try simp only [e10_7]
  clear e10_7
  simp only [List.drop_succ_cons, List.drop_zero]
  have hz10 := hb10.size
  (try simp only [World.size_alloc, World.size_setCell, World.size_drew, World.size_drewN'] at hz10)
  obtain ⟨b10, a10, n10, c10, e10, ht1, f10⟩ := hg10_6
  simp only [e10]
  clear e10 hg10_1 hg10_3 hg10_4 f10
  have H_C_10 := (hb10.block (w.heap.size) (blk_lt' H_C_9.out)).trans H_C_9.out
  clear k_C_9_0 k_C_9_1 f_C_9 H_C_9
  obtain ⟨k_C_10_0, k_C_10_1, f_C_10, l_C_10⟩ := bk2 H_C_10
  replace H_C_10 := Lib.hid H_C_10
  have H_P_10 := (hb10.block (w.heap.size + 1) (blk_lt' H_P_9.out)).trans H_P_9.out
  clear k_P_9_0 k_P_9_1 k_P_9_2 f_P_9 H_P_9
  obtain ⟨k_P_10_0, k_P_10_1, k_P_10_2, f_P_10, l_P_10⟩ := bk3 H_P_10
  replace H_P_10 := Lib.hid H_P_10
  have H_Q_10 := (hb10.block (w.heap.size + 1 + 1) (blk_lt' H_Q_9.out)).trans H_Q_9.out
  clear k_Q_9_0 k_Q_9_1 k_Q_9_2 f_Q_9 H_Q_9
  obtain ⟨k_Q_10_0, k_Q_10_1, k_Q_10_2, f_Q_10, l_Q_10⟩ := bk3 H_Q_10
  replace H_Q_10 := Lib.hid H_Q_10
  have H_O_10 := (hb10.block (w.heap.size + 1 + 1 + 1) (blk_lt' H_O_9.out)).trans H_O_9.out
  clear k_O_9_0 k_O_9_1 k_O_9_2 f_O_9 H_O_9
  obtain ⟨k_O_10_0, k_O_10_1, k_O_10_2, f_O_10, l_O_10⟩ := bk3 H_O_10
  replace H_O_10 := Lib.hid H_O_10
  have H_M_10 := (hb10.block (w6.heap.size) (blk_lt' H_M_9.out)).trans H_M_9.out
  clear k_M_9_0 k_M_9_1 f_M_9 H_M_9
  obtain ⟨k_M_10_0, k_M_10_1, f_M_10, l_M_10⟩ := bk2 H_M_10
  replace H_M_10 := Lib.hid H_M_10
  have H_E_10 := (hb10.block (w8.heap.size) (blk_lt' H_E_9.out)).trans H_E_9.out
  clear k_E_9_0 k_E_9_1 f_E_9 H_E_9
  obtain ⟨k_E_10_0, k_E_10_1, f_E_10, l_E_10⟩ := bk2 H_E_10
  replace H_E_10 := Lib.hid H_E_10
  replace hm2 := hm2.below hb10
  replace hee := hee.below hb10
  have hB10 : Below w.heap.size w w10 := below_via hb10 (by assumption) (by go_size)
  go_upto_region 13 with fail
  replace H_C_10 := H_C_10.out
  replace H_P_10 := H_P_10.out
  replace H_Q_10 := H_Q_10.out
  replace H_O_10 := H_O_10.out
  replace H_M_10 := H_M_10.out
  replace H_E_10 := H_E_10.out
  refine chk (fun W => Below w.heap.size w W ∧ W.heap[w.heap.size]? = some (.cells #[.int .i64 A, .int .i64 B] 29 (0, 0)) ∧ W.heap[w.heap.size + 1]? = some (.cells #[.int .i64 x1, .int .i64 y1, .int .i64 e1] 31 (0, 0)) ∧ W.heap[w.heap.size + 1 + 1]? = some (.cells #[.int .i64 x2, .int .i64 y2, .int .i64 e2] 31 (0, 0)) ∧ W.heap[w.heap.size + 1 + 1 + 1]? = some (.cells #[.int .i64 0, .int .i64 0, .int .i64 0] 31 (0, 0)) ∧ W.heap[w6.heap.size]? = some (.cells #[.bool b6, .slice a6 n6 c6] 55 (0, 0)) ∧ W.heap[w8.heap.size]? = some (.cells #[.bool b8, .slice a8 n8 c8] 55 (0, 0)) ∧ W.heap[g10_7]? = some (.cells #[.bool b10, .slice a10 n10 c10] 55 (0, 0)) ∧ Wx W b6 a6 n6 c6 mm ∧ Wx W b8 a8 n8 c8 ee ∧ Wx W b10 a10 n10 c10 t1) (by refine ⟨?_, ?_, ?_, ?_, ?_, ?_, ?_, ?_, ?_, ?_, ?_⟩ <;> (repeat' first | (with_reducible first | assumption | (apply Ne.symm; assumption) | apply Nat.le_refl | apply Nat.le_add_right | apply zL | apply zRf | apply Wx.box | apply Wx.box4 | apply zWa | apply Wx.drew | apply zWn | apply bx_drew | apply bx_drewN | apply bx_set3 | apply bx_set2 | apply bx_set4 | apply bx_set1) | ((with_reducible apply bx_new); (focus (go_size; done))) | (with_reducible first | apply zOl | apply zFa | apply zDn | apply zDr | apply zAl | apply zSt | refine zVi (by assumption) ?_ ?_) | go_size | omega)) ?_
  try clear hm2
  try clear hee
  try clear ht1
  clear k_C_10_0 k_C_10_1 f_C_10 H_C_10
  clear k_P_10_0 k_P_10_1 k_P_10_2 f_P_10 H_P_10
  clear k_Q_10_0 k_Q_10_1 k_Q_10_2 f_Q_10 H_Q_10
  clear k_O_10_0 k_O_10_1 k_O_10_2 f_O_10 H_O_10
  clear k_M_10_0 k_M_10_1 f_M_10 H_M_10
  clear k_E_10_0 k_E_10_1 f_E_10 H_E_10
  clear hB10
  try clear kb10_7
  try clear fb10_7
  try clear k10_7
  rintro w11 ⟨hB11, H_C_11, H_P_11, H_Q_11, H_O_11, H_M_11, H_E_11, H_T_11, hm2', hee', ht1'⟩
  obtain ⟨k_C_11_0, k_C_11_1, f_C_11, l_C_11⟩ := bk2 H_C_11
  replace H_C_11 := Lib.hid H_C_11
  obtain ⟨k_P_11_0, k_P_11_1, k_P_11_2, f_P_11, l_P_11⟩ := bk3 H_P_11
  replace H_P_11 := Lib.hid H_P_11
  obtain ⟨k_Q_11_0, k_Q_11_1, k_Q_11_2, f_Q_11, l_Q_11⟩ := bk3 H_Q_11
  replace H_Q_11 := Lib.hid H_Q_11
  obtain ⟨k_O_11_0, k_O_11_1, k_O_11_2, f_O_11, l_O_11⟩ := bk3 H_O_11
  replace H_O_11 := Lib.hid H_O_11
  obtain ⟨k_M_11_0, k_M_11_1, f_M_11, l_M_11⟩ := bk2 H_M_11
  replace H_M_11 := Lib.hid H_M_11
  obtain ⟨k_E_11_0, k_E_11_1, f_E_11, l_E_11⟩ := bk2 H_E_11
  replace H_E_11 := Lib.hid H_E_11
  obtain ⟨k_T_11_0, k_T_11_1, f_T_11, l_T_11⟩ := bk2 H_T_11
  replace H_T_11 := Lib.hid H_T_11
  have hm2 := hm2'
  clear hm2'
  have hee := hee'
  clear hee'
  have ht1 := ht1'
  clear ht1'
  refine wp_open (n := 23) (by kernel_rfl) (by kernel_rfl) (by kernel_rfl) (by kernel_rfl) ?_
  simp only [List.take_succ_cons, List.take_zero]
  apply wpS_quiet
  · intro γ W hW hp
    have hs := hW.size
    (try simp only [World.size_alloc, World.size_setCell, World.size_drew, World.size_drewN'] at hs)
    have kx_0 := fun x : Over W => ((cellAt x.lies (g10_7) (by omega) 0).trans (cellAt hW (g10_7) (by first | omega | go_size) 0)).trans k_T_11_0
    have kx_1 := fun x : Over W => ((cellAt x.lies (g10_7) (by omega) 1).trans (cellAt hW (g10_7) (by first | omega | go_size) 1)).trans k_T_11_1
    clear hW hp
    refine ⟨rfl, ?_⟩
    go_big_quiet_op
    first | exact rfl
  · exact locS_const _
  try simp only [Act.put, List.setIfInBounds_toArray, List.set_cons_succ, List.set_cons_zero, Nat.reduceAdd]
  apply wpS_quiet
  · intro γ W hW hp
    have hs := hW.size
    (try simp only [World.size_alloc, World.size_setCell, World.size_drew, World.size_drewN'] at hs)
    have kx_0 := fun x : Over W => ((cellAt x.lies (w6.heap.size) (by omega) 0).trans (cellAt hW (w6.heap.size) (by first | omega | go_size) 0)).trans k_M_11_0
    have kx_1 := fun x : Over W => ((cellAt x.lies (w6.heap.size) (by omega) 1).trans (cellAt hW (w6.heap.size) (by first | omega | go_size) 1)).trans k_M_11_1
    clear hW hp
    refine ⟨rfl, ?_⟩
    go_big_quiet_op
    first | exact rfl
  · exact locS_const _
  try simp only [Act.put, List.setIfInBounds_toArray, List.set_cons_succ, List.set_cons_zero, Nat.reduceAdd]
  apply wpS_quiet
  · intro γ W hW hp
    refine ⟨rfl, ?_⟩
    go_big_quiet_op
    first | exact rfl
  · exact locS_const _
  try simp only [Act.put, List.setIfInBounds_toArray, List.set_cons_succ, List.set_cons_zero, Nat.reduceAdd]
  apply wpS_quiet
  · intro γ W hW hp
    have hs := hW.size
    (try simp only [World.size_alloc, World.size_setCell, World.size_drew, World.size_drewN'] at hs)
    have kx_0 := fun x : Over W => ((cellAt x.lies (w.heap.size + 1) (by omega) 0).trans (cellAt hW (w.heap.size + 1) (by first | omega | go_size) 0)).trans k_P_11_0
    have kx_1 := fun x : Over W => ((cellAt x.lies (w.heap.size + 1) (by omega) 1).trans (cellAt hW (w.heap.size + 1) (by first | omega | go_size) 1)).trans k_P_11_1
    have kx_2 := fun x : Over W => ((cellAt x.lies (w.heap.size + 1) (by omega) 2).trans (cellAt hW (w.heap.size + 1) (by first | omega | go_size) 2)).trans k_P_11_2
    clear hW hp
    refine ⟨rfl, ?_⟩
    go_big_quiet_op
    first | exact rfl
  · exact locS_const _
  try simp only [Act.put, List.setIfInBounds_toArray, List.set_cons_succ, List.set_cons_zero, Nat.reduceAdd]
  apply wpS_quiet
  · intro γ W hW hp
    refine ⟨rfl, ?_⟩
    go_big_quiet_op
    first | exact rfl
  · exact locS_const _
  try simp only [Act.put, List.setIfInBounds_toArray, List.set_cons_succ, List.set_cons_zero, Nat.reduceAdd]
  apply wpS_quiet
  · intro γ W hW hp
    have hs := hW.size
    (try simp only [World.size_alloc, World.size_setCell, World.size_drew, World.size_drewN'] at hs)
    have kx_0 := fun x : Over W => ((cellAt x.lies (w.heap.size + 1 + 1) (by omega) 0).trans (cellAt hW (w.heap.size + 1 + 1) (by first | omega | go_size) 0)).trans k_Q_11_0
    have kx_1 := fun x : Over W => ((cellAt x.lies (w.heap.size + 1 + 1) (by omega) 1).trans (cellAt hW (w.heap.size + 1 + 1) (by first | omega | go_size) 1)).trans k_Q_11_1
    have kx_2 := fun x : Over W => ((cellAt x.lies (w.heap.size + 1 + 1) (by omega) 2).trans (cellAt hW (w.heap.size + 1 + 1) (by first | omega | go_size) 2)).trans k_Q_11_2
    clear hW hp
    refine ⟨rfl, ?_⟩
    go_big_quiet_op
    first | exact rfl
  · exact locS_const _
  try simp only [Act.put, List.setIfInBounds_toArray, List.set_cons_succ, List.set_cons_zero, Nat.reduceAdd]
  apply wpS_quiet
  · intro γ W hW hp
    refine ⟨rfl, ?_⟩
    go_big_quiet_op
    first | exact rfl
  · exact locS_const _
  try simp only [Act.put, List.setIfInBounds_toArray, List.set_cons_succ, List.set_cons_zero, Nat.reduceAdd]
  apply wpS_quiet
  · intro γ W hW hp
    refine ⟨rfl, ?_⟩
    go_big_quiet_op
    first | exact rfl
  · exact locS_const _
  try simp only [Act.put, List.setIfInBounds_toArray, List.set_cons_succ, List.set_cons_zero, Nat.reduceAdd]
  apply wpS_quiet
  · intro γ W hW hp
    have hs := hW.size
    (try simp only [World.size_alloc, World.size_setCell, World.size_drew, World.size_drewN'] at hs)
    have kx_0 := fun x : Over W => ((cellAt x.lies (w.heap.size + 1 + 1) (by omega) 0).trans (cellAt hW (w.heap.size + 1 + 1) (by first | omega | go_size) 0)).trans k_Q_11_0
    have kx_1 := fun x : Over W => ((cellAt x.lies (w.heap.size + 1 + 1) (by omega) 1).trans (cellAt hW (w.heap.size + 1 + 1) (by first | omega | go_size) 1)).trans k_Q_11_1
    have kx_2 := fun x : Over W => ((cellAt x.lies (w.heap.size + 1 + 1) (by omega) 2).trans (cellAt hW (w.heap.size + 1 + 1) (by first | omega | go_size) 2)).trans k_Q_11_2
    clear hW hp
    refine ⟨rfl, ?_⟩
    go_big_quiet_op
    first | exact rfl
  · exact locS_const _
  try simp only [Act.put, List.setIfInBounds_toArray, List.set_cons_succ, List.set_cons_zero, Nat.reduceAdd]
  apply wpS_quiet
  · intro γ W hW hp
    refine ⟨rfl, ?_⟩
    go_big_quiet_op
    first | exact rfl
  · exact locS_const _
  try simp only [Act.put, List.setIfInBounds_toArray, List.set_cons_succ, List.set_cons_zero, Nat.reduceAdd]
  apply wpS_quiet
  · intro γ W hW hp
    refine ⟨rfl, ?_⟩
    go_big_quiet_op
    first | exact rfl
  · exact locS_const _
  try simp only [Act.put, List.setIfInBounds_toArray, List.set_cons_succ, List.set_cons_zero, Nat.reduceAdd]
  apply wpS_quiet
  · intro γ W hW hp
    have hs := hW.size
    (try simp only [World.size_alloc, World.size_setCell, World.size_drew, World.size_drewN'] at hs)
    have kx_0 := fun x : Over W => ((cellAt x.lies (w.heap.size + 1 + 1) (by omega) 0).trans (cellAt hW (w.heap.size + 1 + 1) (by first | omega | go_size) 0)).trans k_Q_11_0
    have kx_1 := fun x : Over W => ((cellAt x.lies (w.heap.size + 1 + 1) (by omega) 1).trans (cellAt hW (w.heap.size + 1 + 1) (by first | omega | go_size) 1)).trans k_Q_11_1
    have kx_2 := fun x : Over W => ((cellAt x.lies (w.heap.size + 1 + 1) (by omega) 2).trans (cellAt hW (w.heap.size + 1 + 1) (by first | omega | go_size) 2)).trans k_Q_11_2
    clear hW hp
    refine ⟨rfl, ?_⟩
    go_big_quiet_op
    first | exact rfl
  · exact locS_const _
  try simp only [Act.put, List.setIfInBounds_toArray, List.set_cons_succ, List.set_cons_zero, Nat.reduceAdd]
  apply wpS_quiet
  · intro γ W hW hp
    refine ⟨rfl, ?_⟩
    go_big_quiet_op
    first | exact rfl
  · exact locS_const _
  try simp only [Act.put, List.setIfInBounds_toArray, List.set_cons_succ, List.set_cons_zero, Nat.reduceAdd]
  apply wpS_quiet
  · intro γ W hW hp
    have hs := hW.size
    (try simp only [World.size_alloc, World.size_setCell, World.size_drew, World.size_drewN'] at hs)
    have kx_0 := fun x : Over W => ((cellAt x.lies (w.heap.size + 1) (by omega) 0).trans (cellAt hW (w.heap.size + 1) (by first | omega | go_size) 0)).trans k_P_11_0
    have kx_1 := fun x : Over W => ((cellAt x.lies (w.heap.size + 1) (by omega) 1).trans (cellAt hW (w.heap.size + 1) (by first | omega | go_size) 1)).trans k_P_11_1
    have kx_2 := fun x : Over W => ((cellAt x.lies (w.heap.size + 1) (by omega) 2).trans (cellAt hW (w.heap.size + 1) (by first | omega | go_size) 2)).trans k_P_11_2
    clear hW hp
    refine ⟨rfl, ?_⟩
    go_big_quiet_op
    first | exact rfl
  · exact locS_const _
  try simp only [Act.put, List.setIfInBounds_toArray, List.set_cons_succ, List.set_cons_zero, Nat.reduceAdd]
  apply wpS_quiet
  · intro γ W hW hp
    refine ⟨rfl, ?_⟩
    go_big_quiet_op
    first | exact rfl
  · exact locS_const _
  try simp only [Act.put, List.setIfInBounds_toArray, List.set_cons_succ, List.set_cons_zero, Nat.reduceAdd]
  apply wpS_quiet
  · intro γ W hW hp
    refine ⟨rfl, ?_⟩
    go_big_quiet_op
    first | exact rfl
  · exact locS_const _
  try simp only [Act.put, List.setIfInBounds_toArray, List.set_cons_succ, List.set_cons_zero, Nat.reduceAdd]
  apply wpS_quiet
  · intro γ W hW hp
    have hs := hW.size
    (try simp only [World.size_alloc, World.size_setCell, World.size_drew, World.size_drewN'] at hs)
    have kx_0 := fun x : Over W => ((cellAt x.lies (w.heap.size + 1) (by omega) 0).trans (cellAt hW (w.heap.size + 1) (by first | omega | go_size) 0)).trans k_P_11_0
    have kx_1 := fun x : Over W => ((cellAt x.lies (w.heap.size + 1) (by omega) 1).trans (cellAt hW (w.heap.size + 1) (by first | omega | go_size) 1)).trans k_P_11_1
    have kx_2 := fun x : Over W => ((cellAt x.lies (w.heap.size + 1) (by omega) 2).trans (cellAt hW (w.heap.size + 1) (by first | omega | go_size) 2)).trans k_P_11_2
    clear hW hp
    refine ⟨rfl, ?_⟩
    go_big_quiet_op
    first | exact rfl
  · exact locS_const _
  try simp only [Act.put, List.setIfInBounds_toArray, List.set_cons_succ, List.set_cons_zero, Nat.reduceAdd]
  apply wpS_quiet
  · intro γ W hW hp
    refine ⟨rfl, ?_⟩
    go_big_quiet_op
    first | exact rfl
  · exact locS_const _
  try simp only [Act.put, List.setIfInBounds_toArray, List.set_cons_succ, List.set_cons_zero, Nat.reduceAdd]
  apply wpS_quiet
  · intro γ W hW hp
    refine ⟨rfl, ?_⟩
    go_big_quiet_op
    first | exact rfl
  · exact locS_const _
  try simp only [Act.put, List.setIfInBounds_toArray, List.set_cons_succ, List.set_cons_zero, Nat.reduceAdd]
  apply wpS_open (openW w.heap.size sm)
  · intro γ W hW hp
    refine ⟨rfl, ?_⟩
    go_simp
    refine plainNew rfl ?_
    exact open_W (TU _) (by (have := hW.size; (try simp only [World.size_alloc, World.size_setCell, World.size_drew, World.size_drewN'] at this); omega))
  try simp only [Act.put, List.setIfInBounds_toArray, List.set_cons_succ, List.set_cons_zero, Nat.reduceAdd]
  apply wpS_open (openW w.heap.size t2)
  · intro γ W hW hp
    have hp_19 := hp _ (List.mem_append_right _ (List.mem_singleton.2 rfl)) (by kernel_rfl)
    dsimp only at hp_19
    refine ⟨rfl, ?_⟩
    go_simp
    refine plainNew rfl ?_
    obtain ⟨b3, a3, n3, c3, e3, h3, _⟩ := hp_19
    rw [e3]
    exact open_W (mulWholes_eq (hm2.below hW) h3 HT2.out l3 l4) (by (have := hW.size; (try simp only [World.size_alloc, World.size_setCell, World.size_drew, World.size_drewN'] at this); omega))
  try simp only [Act.put, List.setIfInBounds_toArray, List.set_cons_succ, List.set_cons_zero, Nat.reduceAdd]
  apply wpS_open (openW w.heap.size (-t2))
  · intro γ W hW hp
    have hp_20 := hp _ (List.mem_append_right _ (List.mem_singleton.2 rfl)) (by kernel_rfl)
    dsimp only at hp_20
    refine ⟨rfl, ?_⟩
    go_simp
    refine plainNew rfl ?_
    obtain ⟨b3, a3, n3, c3, e3, h3, _⟩ := hp_20
    rw [e3]
    exact open_W (negated_any _ _ _ _ _ _ h3 (by rw [h3.ln]; omega)) (by (have := hW.size; (try simp only [World.size_alloc, World.size_setCell, World.size_drew, World.size_drewN'] at this); omega))
  try simp only [Act.put, List.setIfInBounds_toArray, List.set_cons_succ, List.set_cons_zero, Nat.reduceAdd]
  apply wpS_open (openW w.heap.size t)
  · intro γ W hW hp
    have hp_21 := hp _ (List.mem_append_right _ (List.mem_singleton.2 rfl)) (by kernel_rfl)
    dsimp only at hp_21
    refine ⟨rfl, ?_⟩
    go_simp
    refine plainNew rfl ?_
    obtain ⟨b3, a3, n3, c3, e3, h3, _⟩ := hp_21
    rw [e3]
    exact open_W (addWholes_eq (ht1.below hW) h3 HT.out l5 l6) (by (have := hW.size; (try simp only [World.size_alloc, World.size_setCell, World.size_drew, World.size_drewN'] at this); omega))
  try simp only [Act.put, List.setIfInBounds_toArray, List.set_cons_succ, List.set_cons_zero, Nat.reduceAdd]
  apply wpS_end
  intro γ w12 hb12 hG12 hA12
  have hg12_19 := hG12 _ (List.mem_append_left _ (List.mem_append_left _ (List.mem_append_left _ (List.mem_append_right _ (List.mem_singleton.2 rfl)))))
  dsimp only at hg12_19
  have hg12_20 := hG12 _ (List.mem_append_left _ (List.mem_append_left _ (List.mem_append_right _ (List.mem_singleton.2 rfl))))
  dsimp only at hg12_20
  have hg12_21 := hG12 _ (List.mem_append_left _ (List.mem_append_right _ (List.mem_singleton.2 rfl)))
  dsimp only at hg12_21
  have hg12_22 := hG12 _ (List.mem_append_right _ (List.mem_singleton.2 rfl))
  dsimp only at hg12_22
  clear hG12 hA12
  simp only [List.drop_succ_cons, List.drop_zero]
  have hz12 := hb12.size
  (try simp only [World.size_alloc, World.size_setCell, World.size_drew, World.size_drewN'] at hz12)
  obtain ⟨b12, a12, n12, c12, e12, htr, f12⟩ := hg12_22
  simp only [e12]
  clear e12 hg12_19 hg12_20 hg12_21 f12
  have H_C_12 := (hb12.block (w.heap.size) (blk_lt' H_C_11.out)).trans H_C_11.out
  clear k_C_11_0 k_C_11_1 f_C_11 H_C_11
  obtain ⟨k_C_12_0, k_C_12_1, f_C_12, l_C_12⟩ := bk2 H_C_12
  replace H_C_12 := Lib.hid H_C_12
  have H_P_12 := (hb12.block (w.heap.size + 1) (blk_lt' H_P_11.out)).trans H_P_11.out
  clear k_P_11_0 k_P_11_1 k_P_11_2 f_P_11 H_P_11
  obtain ⟨k_P_12_0, k_P_12_1, k_P_12_2, f_P_12, l_P_12⟩ := bk3 H_P_12
  replace H_P_12 := Lib.hid H_P_12
  have H_Q_12 := (hb12.block (w.heap.size + 1 + 1) (blk_lt' H_Q_11.out)).trans H_Q_11.out
  clear k_Q_11_0 k_Q_11_1 k_Q_11_2 f_Q_11 H_Q_11
  obtain ⟨k_Q_12_0, k_Q_12_1, k_Q_12_2, f_Q_12, l_Q_12⟩ := bk3 H_Q_12
  replace H_Q_12 := Lib.hid H_Q_12
  have H_O_12 := (hb12.block (w.heap.size + 1 + 1 + 1) (blk_lt' H_O_11.out)).trans H_O_11.out
  clear k_O_11_0 k_O_11_1 k_O_11_2 f_O_11 H_O_11
  obtain ⟨k_O_12_0, k_O_12_1, k_O_12_2, f_O_12, l_O_12⟩ := bk3 H_O_12
  replace H_O_12 := Lib.hid H_O_12
  have H_M_12 := (hb12.block (w6.heap.size) (blk_lt' H_M_11.out)).trans H_M_11.out
  clear k_M_11_0 k_M_11_1 f_M_11 H_M_11
  obtain ⟨k_M_12_0, k_M_12_1, f_M_12, l_M_12⟩ := bk2 H_M_12
  replace H_M_12 := Lib.hid H_M_12
  have H_E_12 := (hb12.block (w8.heap.size) (blk_lt' H_E_11.out)).trans H_E_11.out
  clear k_E_11_0 k_E_11_1 f_E_11 H_E_11
  obtain ⟨k_E_12_0, k_E_12_1, f_E_12, l_E_12⟩ := bk2 H_E_12
  replace H_E_12 := Lib.hid H_E_12
  have H_T_12 := (hb12.block (g10_7) (blk_lt' H_T_11.out)).trans H_T_11.out
  clear k_T_11_0 k_T_11_1 f_T_11 H_T_11
  obtain ⟨k_T_12_0, k_T_12_1, f_T_12, l_T_12⟩ := bk2 H_T_12
  replace H_T_12 := Lib.hid H_T_12
  replace hm2 := hm2.below hb12
  replace hee := hee.below hb12
  replace ht1 := ht1.below hb12
  have hB12 : Below w.heap.size w w12 := below_via hb12 (by assumption) (by go_size)
  go_upto_region 14 with fail
  replace H_C_12 := H_C_12.out
  replace H_P_12 := H_P_12.out
  replace H_Q_12 := H_Q_12.out
  replace H_O_12 := H_O_12.out
  replace H_M_12 := H_M_12.out
  replace H_E_12 := H_E_12.out
  replace H_T_12 := H_T_12.out
  refine chk (fun W => Below w.heap.size w W ∧ W.heap[w.heap.size]? = some (.cells #[.int .i64 A, .int .i64 B] 29 (0, 0)) ∧ W.heap[w.heap.size + 1]? = some (.cells #[.int .i64 x1, .int .i64 y1, .int .i64 e1] 31 (0, 0)) ∧ W.heap[w.heap.size + 1 + 1]? = some (.cells #[.int .i64 x2, .int .i64 y2, .int .i64 e2] 31 (0, 0)) ∧ W.heap[w.heap.size + 1 + 1 + 1]? = some (.cells #[.int .i64 0, .int .i64 0, .int .i64 0] 31 (0, 0)) ∧ W.heap[w6.heap.size]? = some (.cells #[.bool b6, .slice a6 n6 c6] 55 (0, 0)) ∧ W.heap[w8.heap.size]? = some (.cells #[.bool b8, .slice a8 n8 c8] 55 (0, 0)) ∧ W.heap[g10_7]? = some (.cells #[.bool b12, .slice a12 n12 c12] 55 (0, 0)) ∧ Wx W b6 a6 n6 c6 mm ∧ Wx W b8 a8 n8 c8 ee ∧ Wx W b12 a12 n12 c12 t) (by refine ⟨?_, ?_, ?_, ?_, ?_, ?_, ?_, ?_, ?_, ?_, ?_⟩ <;> (repeat' first | (with_reducible first | assumption | (apply Ne.symm; assumption) | apply Nat.le_refl | apply Nat.le_add_right | apply zL | apply zRf | apply Wx.box | apply Wx.box4 | apply zWa | apply Wx.drew | apply zWn | apply bx_drew | apply bx_drewN | apply bx_set3 | apply bx_set2 | apply bx_set4 | apply bx_set1) | ((with_reducible apply bx_new); (focus (go_size; done))) | (with_reducible first | apply zOl | apply zFa | apply zDn | apply zDr | apply zAl | apply zSt | refine zVi (by assumption) ?_ ?_) | go_size | omega)) ?_
  try clear hm2
  try clear hee
  try clear htr
  clear k_C_12_0 k_C_12_1 f_C_12 H_C_12
  clear k_P_12_0 k_P_12_1 k_P_12_2 f_P_12 H_P_12
  clear k_Q_12_0 k_Q_12_1 k_Q_12_2 f_Q_12 H_Q_12
  clear k_O_12_0 k_O_12_1 k_O_12_2 f_O_12 H_O_12
  clear k_M_12_0 k_M_12_1 f_M_12 H_M_12
  clear k_E_12_0 k_E_12_1 f_E_12 H_E_12
  clear k_T_12_0 k_T_12_1 f_T_12 H_T_12
  clear hB12
  rintro w13 ⟨hB13, H_C_13, H_P_13, H_Q_13, H_O_13, H_M_13, H_E_13, H_T_13, hm2', hee', htr'⟩
  obtain ⟨k_C_13_0, k_C_13_1, f_C_13, l_C_13⟩ := bk2 H_C_13
  replace H_C_13 := Lib.hid H_C_13
  obtain ⟨k_P_13_0, k_P_13_1, k_P_13_2, f_P_13, l_P_13⟩ := bk3 H_P_13
  replace H_P_13 := Lib.hid H_P_13
  obtain ⟨k_Q_13_0, k_Q_13_1, k_Q_13_2, f_Q_13, l_Q_13⟩ := bk3 H_Q_13
  replace H_Q_13 := Lib.hid H_Q_13
  obtain ⟨k_O_13_0, k_O_13_1, k_O_13_2, f_O_13, l_O_13⟩ := bk3 H_O_13
  replace H_O_13 := Lib.hid H_O_13
  obtain ⟨k_M_13_0, k_M_13_1, f_M_13, l_M_13⟩ := bk2 H_M_13
  replace H_M_13 := Lib.hid H_M_13
  obtain ⟨k_E_13_0, k_E_13_1, f_E_13, l_E_13⟩ := bk2 H_E_13
  replace H_E_13 := Lib.hid H_E_13
  obtain ⟨k_T_13_0, k_T_13_1, f_T_13, l_T_13⟩ := bk2 H_T_13
  replace H_T_13 := Lib.hid H_T_13
  have hm2 := hm2'
  clear hm2'
  have hee := hee'
  clear hee'
  have htr := htr'
  clear htr'
  clear TN TU lm lnn lm5 ln5 wk1 wk2 wk3 wk4 wk5 wk6 wk7 q1 q2 q3 q4 q5 q6 l1 l4 l5 l6 HM2 HNN HT1 HT2 HT HE0 HS0
  go_upto_region 15 with (first | (have _t := tok16; go_at_call 36; refine (mulWholes_eq (hm2.below (by repeat' first | (with_reducible first | apply zRf | assumption | apply zDn | apply zDr | apply zAl | apply zSt | refine zVi (by assumption) ?_ ?_) | go_size)) (hee.below (by repeat' first | (with_reducible first | apply zRf | assumption | apply zDn | apply zDr | apply zAl | apply zSt | refine zVi (by assumption) ?_ ?_) | go_size)) HB.out l3 l2).mono ?_; rintro e w16 ⟨b16, a16, n16, c16, rfl, hbor, f16, hb16⟩; clear tok16 _t; have hz16 := hb16.size; (try simp only [World.size_alloc, World.size_setCell, World.size_drew, World.size_drewN'] at hz16)))
  have H_C_16 := (hb16.block (w.heap.size) (blk_lt' H_C_13.out)).trans H_C_13.out
  clear k_C_13_0 k_C_13_1 f_C_13 H_C_13
  obtain ⟨k_C_16_0, k_C_16_1, f_C_16, l_C_16⟩ := bk2 H_C_16
  replace H_C_16 := Lib.hid H_C_16
  have H_P_16 := (hb16.block (w.heap.size + 1) (blk_lt' H_P_13.out)).trans H_P_13.out
  clear k_P_13_0 k_P_13_1 k_P_13_2 f_P_13 H_P_13
  obtain ⟨k_P_16_0, k_P_16_1, k_P_16_2, f_P_16, l_P_16⟩ := bk3 H_P_16
  replace H_P_16 := Lib.hid H_P_16
  have H_Q_16 := (hb16.block (w.heap.size + 1 + 1) (blk_lt' H_Q_13.out)).trans H_Q_13.out
  clear k_Q_13_0 k_Q_13_1 k_Q_13_2 f_Q_13 H_Q_13
  obtain ⟨k_Q_16_0, k_Q_16_1, k_Q_16_2, f_Q_16, l_Q_16⟩ := bk3 H_Q_16
  replace H_Q_16 := Lib.hid H_Q_16
  have H_O_16 := (hb16.block (w.heap.size + 1 + 1 + 1) (blk_lt' H_O_13.out)).trans H_O_13.out
  clear k_O_13_0 k_O_13_1 k_O_13_2 f_O_13 H_O_13
  obtain ⟨k_O_16_0, k_O_16_1, k_O_16_2, f_O_16, l_O_16⟩ := bk3 H_O_16
  replace H_O_16 := Lib.hid H_O_16
  have H_M_16 := (hb16.block (w6.heap.size) (blk_lt' H_M_13.out)).trans H_M_13.out
  clear k_M_13_0 k_M_13_1 f_M_13 H_M_13
  obtain ⟨k_M_16_0, k_M_16_1, f_M_16, l_M_16⟩ := bk2 H_M_16
  replace H_M_16 := Lib.hid H_M_16
  have H_E_16 := (hb16.block (w8.heap.size) (blk_lt' H_E_13.out)).trans H_E_13.out
  clear k_E_13_0 k_E_13_1 f_E_13 H_E_13
  obtain ⟨k_E_16_0, k_E_16_1, f_E_16, l_E_16⟩ := bk2 H_E_16
  replace H_E_16 := Lib.hid H_E_16
  have H_T_16 := (hb16.block (g10_7) (blk_lt' H_T_13.out)).trans H_T_13.out
  clear k_T_13_0 k_T_13_1 f_T_13 H_T_13
  obtain ⟨k_T_16_0, k_T_16_1, f_T_16, l_T_16⟩ := bk2 H_T_16
  replace H_T_16 := Lib.hid H_T_16
  replace hm2 := hm2.below hb16
  replace hee := hee.below hb16
  replace htr := htr.below hb16
  have hB16 : Below w.heap.size w w16 := below_via hb16 (by assumption) (by go_size)
  clear f16
  replace H_C_16 := H_C_16.out
  replace H_P_16 := H_P_16.out
  replace H_Q_16 := H_Q_16.out
  replace H_O_16 := H_O_16.out
  replace H_M_16 := H_M_16.out
  replace H_E_16 := H_E_16.out
  replace H_T_16 := H_T_16.out
  refine chk (fun W => Below w.heap.size w W ∧ W.heap[w.heap.size]? = some (.cells #[.int .i64 A, .int .i64 B] 29 (0, 0)) ∧ W.heap[w.heap.size + 1]? = some (.cells #[.int .i64 x1, .int .i64 y1, .int .i64 e1] 31 (0, 0)) ∧ W.heap[w.heap.size + 1 + 1 + 1]? = some (.cells #[.int .i64 0, .int .i64 0, .int .i64 0] 31 (0, 0)) ∧ W.heap[g10_7]? = some (.cells #[.bool b12, .slice a12 n12 c12] 55 (0, 0)) ∧ W.heap[w16.heap.size]? = some (.cells #[.bool b16, .slice a16 n16 c16] 55 (0, 0)) ∧ Wx W b12 a12 n12 c12 t ∧ Wx W b16 a16 n16 c16 bo) (by refine ⟨?_, ?_, ?_, ?_, ?_, ?_, ?_, ?_⟩ <;> (repeat' first | (with_reducible first | assumption | (apply Ne.symm; assumption) | apply Nat.le_refl | apply Nat.le_add_right | apply zL | apply zRf | apply Wx.box | apply Wx.box4 | apply zWa | apply Wx.drew | apply zWn | apply bx_drew | apply bx_drewN | apply bx_set3 | apply bx_set2 | apply bx_set4 | apply bx_set1) | ((with_reducible apply bx_new); (focus (go_size; done))) | (with_reducible first | apply zOl | apply zFa | apply zDn | apply zDr | apply zAl | apply zSt | refine zVi (by assumption) ?_ ?_) | go_size | omega)) ?_
  try clear htr
  try clear hbor
  clear k_C_16_0 k_C_16_1 f_C_16 H_C_16
  clear k_P_16_0 k_P_16_1 k_P_16_2 f_P_16 H_P_16
  clear k_Q_16_0 k_Q_16_1 k_Q_16_2 f_Q_16 H_Q_16
  clear k_O_16_0 k_O_16_1 k_O_16_2 f_O_16 H_O_16
  clear k_M_16_0 k_M_16_1 f_M_16 H_M_16
  clear k_E_16_0 k_E_16_1 f_E_16 H_E_16
  clear k_T_16_0 k_T_16_1 f_T_16 H_T_16
  clear hB16
  rintro w17 ⟨hB17, H_C_17, H_P_17, H_O_17, H_T_17, H_B_17, htr', hbor'⟩
  obtain ⟨k_C_17_0, k_C_17_1, f_C_17, l_C_17⟩ := bk2 H_C_17
  replace H_C_17 := Lib.hid H_C_17
  obtain ⟨k_P_17_0, k_P_17_1, k_P_17_2, f_P_17, l_P_17⟩ := bk3 H_P_17
  replace H_P_17 := Lib.hid H_P_17
  obtain ⟨k_O_17_0, k_O_17_1, k_O_17_2, f_O_17, l_O_17⟩ := bk3 H_O_17
  replace H_O_17 := Lib.hid H_O_17
  obtain ⟨k_T_17_0, k_T_17_1, f_T_17, l_T_17⟩ := bk2 H_T_17
  replace H_T_17 := Lib.hid H_T_17
  obtain ⟨k_B_17_0, k_B_17_1, f_B_17, l_B_17⟩ := bk2 H_B_17
  replace H_B_17 := Lib.hid H_B_17
  have htr := htr'
  clear htr'
  have hbor := hbor'
  clear hbor'
  have l7b : ln t ≤ 8000 := by omega
  have l7 : ln t ≤ 10000 := by omega
  have l8 : ln bo ≤ 9000 := by omega
  clear q7 q8 HB l2 l3
  go_wp2_with fail
  go_loopw [15] (fun ev wr => AdRel n m x1 e1 x2 e2 w17 ev wr) (fun ev _ => (21 - intOf ev).toNat)
  case atStart => exact ⟨0, rfl, by omega, fun e x h1 h2 => by omega, Below.refl _ _⟩
  case round =>
    obtain ⟨k, rfl, hk, hall, hb18⟩ := hrel
    obtain ⟨w18, rfl⟩ : ∃ v, v = wr := ⟨_, rfl⟩
    have HALL := Lib.hid hall
    clear hall
    have H_C_18 := (hb18.block (w.heap.size) (blk_lt' H_C_17.out)).trans H_C_17.out
    clear k_C_17_0 k_C_17_1 f_C_17 H_C_17
    obtain ⟨k_C_18_0, k_C_18_1, f_C_18, l_C_18⟩ := bk2 H_C_18
    replace H_C_18 := Lib.hid H_C_18
    have H_P_18 := (hb18.block (w.heap.size + 1) (blk_lt' H_P_17.out)).trans H_P_17.out
    clear k_P_17_0 k_P_17_1 k_P_17_2 f_P_17 H_P_17
    obtain ⟨k_P_18_0, k_P_18_1, k_P_18_2, f_P_18, l_P_18⟩ := bk3 H_P_18
    replace H_P_18 := Lib.hid H_P_18
    have H_O_18 := (hb18.block (w.heap.size + 1 + 1 + 1) (blk_lt' H_O_17.out)).trans H_O_17.out
    clear k_O_17_0 k_O_17_1 k_O_17_2 f_O_17 H_O_17
    obtain ⟨k_O_18_0, k_O_18_1, k_O_18_2, f_O_18, l_O_18⟩ := bk3 H_O_18
    replace H_O_18 := Lib.hid H_O_18
    have H_T_18 := (hb18.block (g10_7) (blk_lt' H_T_17.out)).trans H_T_17.out
    clear k_T_17_0 k_T_17_1 f_T_17 H_T_17
    obtain ⟨k_T_18_0, k_T_18_1, f_T_18, l_T_18⟩ := bk2 H_T_18
    replace H_T_18 := Lib.hid H_T_18
    have H_B_18 := (hb18.block (w16.heap.size) (blk_lt' H_B_17.out)).trans H_B_17.out
    clear k_B_17_0 k_B_17_1 f_B_17 H_B_17
    obtain ⟨k_B_18_0, k_B_18_1, f_B_18, l_B_18⟩ := bk2 H_B_18
    replace H_B_18 := Lib.hid H_B_18
    replace htr := htr.below hb18
    replace hbor := hbor.below hb18
    have hB18 : Below w.heap.size w w18 := below_via hb18 (by assumption) (by go_size)
    have hb17 := hb18
    by_cases hlt : k < 20
    · obtain ⟨e, he0⟩ : ∃ e : Int, (k : Int) + 1 = e := ⟨_, rfl⟩
      rw [he0]
      have HE := Lib.hid he0
      have he : 1 ≤ e ∧ e ≤ 20 := by omega
      clear he0
      have ve := mul_bd (a := e) (b := e) (A := 20) (B := 20) (by omega) (by omega)
      have l9 : ln (t * (e * e)) ≤ 9000 := by
        have := ln_mul t (e * e)
        have := ln_small (a := e * e) (by omega) (by omega)
        omega
      go_upto_region 18 with fail
      refine wp_open (n := 11) (by kernel_rfl) (by kernel_rfl) (by kernel_rfl) (by kernel_rfl) ?_
      simp only [List.take_succ_cons, List.take_zero]
      apply wpS_quiet
      · intro γ W hW hp
        have hs := hW.size
        (try simp only [World.size_alloc, World.size_setCell, World.size_drew, World.size_drewN'] at hs)
        have kx_0 := fun x : Over W => ((cellAt x.lies (g10_7) (by omega) 0).trans (cellAt hW (g10_7) (by first | omega | go_size) 0)).trans k_T_18_0
        have kx_1 := fun x : Over W => ((cellAt x.lies (g10_7) (by omega) 1).trans (cellAt hW (g10_7) (by first | omega | go_size) 1)).trans k_T_18_1
        clear hW hp
        refine ⟨rfl, ?_⟩
        go_big_quiet_op
        first | exact rfl
      · exact locS_const _
      try simp only [Act.put, List.setIfInBounds_toArray, List.set_cons_succ, List.set_cons_zero, Nat.reduceAdd]
      apply wpS_quiet
      · intro γ W hW hp
        refine ⟨rfl, ?_⟩
        go_big_quiet_op
        first | exact rfl
      · exact locS_const _
      try simp only [Act.put, List.setIfInBounds_toArray, List.set_cons_succ, List.set_cons_zero, Nat.reduceAdd]
      apply wpS_quiet
      · intro γ W hW hp
        refine ⟨rfl, ?_⟩
        go_big_quiet_op
        first | exact rfl
      · exact locS_const _
      try simp only [Act.put, List.setIfInBounds_toArray, List.set_cons_succ, List.set_cons_zero, Nat.reduceAdd]
      apply wpS_quiet
      · intro γ W hW hp
        refine ⟨rfl, ?_⟩
        go_big_quiet_op
        first | exact rfl
      · exact locS_const _
      try simp only [Act.put, List.setIfInBounds_toArray, List.set_cons_succ, List.set_cons_zero, Nat.reduceAdd]
      apply wpS_open (openW w.heap.size (t * (e * e)))
      · intro γ W hW hp
        refine ⟨rfl, ?_⟩
        go_simp
        refine plainNew rfl ?_
        exact open_W (timesInt_eq (htr.below hW) rfl l7 (by omega) (by omega)) (by (have := hW.size; (try simp only [World.size_alloc, World.size_setCell, World.size_drew, World.size_drewN'] at this); omega))
      try simp only [Act.put, List.setIfInBounds_toArray, List.set_cons_succ, List.set_cons_zero, Nat.reduceAdd]
      apply wpS_quiet
      · intro γ W hW hp
        have hs := hW.size
        (try simp only [World.size_alloc, World.size_setCell, World.size_drew, World.size_drewN'] at hs)
        have kx_0 := fun x : Over W => ((cellAt x.lies (w16.heap.size) (by omega) 0).trans (cellAt hW (w16.heap.size) (by first | omega | go_size) 0)).trans k_B_18_0
        have kx_1 := fun x : Over W => ((cellAt x.lies (w16.heap.size) (by omega) 1).trans (cellAt hW (w16.heap.size) (by first | omega | go_size) 1)).trans k_B_18_1
        clear hW hp
        refine ⟨rfl, ?_⟩
        go_big_quiet_op
        first | exact rfl
      · exact locS_const _
      try simp only [Act.put, List.setIfInBounds_toArray, List.set_cons_succ, List.set_cons_zero, Nat.reduceAdd]
      apply wpS_open (openSQ (t * (e * e)) bo)
      · intro γ W hW hp
        have hp_4 := hp _ (List.mem_append_right _ (List.mem_singleton.2 rfl)) (by kernel_rfl)
        dsimp only at hp_4
        refine ⟨rfl, ?_⟩
        go_simp
        refine plainNew rfl ?_
        obtain ⟨b3, a3, n3, c3, e3, h3, _⟩ := hp_4
        rw [e3]
        exact open_SQ (smallQuotient_any h3 (hbor.below hW) l9 l8 HBP.out)
      try simp only [Act.put, List.setIfInBounds_toArray, List.set_cons_succ, List.set_cons_zero, Nat.reduceAdd]
      apply wpS_quiet
      · intro γ W hW hp
        have hp_6 := hp _ (List.mem_append_right _ (List.mem_singleton.2 rfl)) (by kernel_rfl)
        dsimp only at hp_6
        refine ⟨rfl, ?_⟩
        go_big_quiet_op
        first | exact rfl
      · intro γ k g hk
        have h_6 : updV γ k g 6 = γ 6 := updV_other γ g (fun e => by subst e; exact absurd hk (by rw [show reachB .any _ 100 7 6 = true from by kernel_rfl]; simp))
        first | rfl | simp only [h_6]
      try simp only [Act.put, List.setIfInBounds_toArray, List.set_cons_succ, List.set_cons_zero, Nat.reduceAdd]
      apply wpS_quiet (v := fun γ => tupAt (γ 6) 0)
      · intro γ W hW hp
        have hp_6 := hp _ (List.mem_append_right _ (List.mem_singleton.2 rfl)) (by kernel_rfl)
        dsimp only at hp_6
        obtain ⟨uA, bA, eA, -⟩ := hp_6
        refine ⟨rfl, ?_⟩
        simp only [eA]
        go_big_quiet_op
        first | exact rfl | simp [tupAt, eA]
      · intro γ k g hk
        have h_6 : updV γ k g 6 = γ 6 := updV_other γ g (fun e => by subst e; exact absurd hk (by rw [show reachB .any _ 100 8 6 = true from by kernel_rfl]; simp))
        simp only [h_6]
      try simp only [Act.put, List.setIfInBounds_toArray, List.set_cons_succ, List.set_cons_zero, Nat.reduceAdd]
      apply wpS_quiet (v := fun γ => tupAt (γ 6) 1)
      · intro γ W hW hp
        have hp_6 := hp _ (List.mem_append_right _ (List.mem_singleton.2 rfl)) (by kernel_rfl)
        dsimp only at hp_6
        obtain ⟨uA, bA, eA, -⟩ := hp_6
        refine ⟨rfl, ?_⟩
        simp only [eA]
        go_big_quiet_op
        first | exact rfl | simp [tupAt, eA]
      · intro γ k g hk
        have h_6 : updV γ k g 6 = γ 6 := updV_other γ g (fun e => by subst e; exact absurd hk (by rw [show reachB .any _ 100 9 6 = true from by kernel_rfl]; simp))
        simp only [h_6]
      try simp only [Act.put, List.setIfInBounds_toArray, List.set_cons_succ, List.set_cons_zero, Nat.reduceAdd]
      apply wpS_quiet
      · intro γ W hW hp
        have hp_6 := hp _ (List.mem_append_right _ (List.mem_singleton.2 rfl)) (by kernel_rfl)
        dsimp only at hp_6
        refine ⟨rfl, ?_⟩
        go_big_quiet_op
        first | exact rfl
      · intro γ k g hk
        have h_6 : updV γ k g 6 = γ 6 := updV_other γ g (fun e => by subst e; exact absurd hk (by rw [show reachB .any _ 100 10 6 = true from by kernel_rfl]; simp))
        first | rfl | simp only [h_6]
      try simp only [Act.put, List.setIfInBounds_toArray, List.set_cons_succ, List.set_cons_zero, Nat.reduceAdd]
      apply wpS_end
      intro γ w19 hb19 hG19 hA19
      have hg19_4 := hG19 _ (List.mem_append_left _ (List.mem_append_right _ (List.mem_singleton.2 rfl)))
      dsimp only at hg19_4
      have hg19_6 := hG19 _ (List.mem_append_right _ (List.mem_singleton.2 rfl))
      dsimp only at hg19_6
      clear hG19 hA19
      simp only [List.drop_succ_cons, List.drop_zero]
      have hz19 := hb19.size
      (try simp only [World.size_alloc, World.size_setCell, World.size_drew, World.size_drewN'] at hz19)
      obtain ⟨lo, bq, e19, hbq, lo1, lo2, huq⟩ := hg19_6
      simp only [e19, tupAt0, tupAt1]
      clear e19 hg19_4 l9
      have H_C_19 := (hb19.block (w.heap.size) (blk_lt' H_C_18.out)).trans H_C_18.out
      clear k_C_18_0 k_C_18_1 f_C_18 H_C_18
      obtain ⟨k_C_19_0, k_C_19_1, f_C_19, l_C_19⟩ := bk2 H_C_19
      replace H_C_19 := Lib.hid H_C_19
      have H_P_19 := (hb19.block (w.heap.size + 1) (blk_lt' H_P_18.out)).trans H_P_18.out
      clear k_P_18_0 k_P_18_1 k_P_18_2 f_P_18 H_P_18
      obtain ⟨k_P_19_0, k_P_19_1, k_P_19_2, f_P_19, l_P_19⟩ := bk3 H_P_19
      replace H_P_19 := Lib.hid H_P_19
      have H_O_19 := (hb19.block (w.heap.size + 1 + 1 + 1) (blk_lt' H_O_18.out)).trans H_O_18.out
      clear k_O_18_0 k_O_18_1 k_O_18_2 f_O_18 H_O_18
      obtain ⟨k_O_19_0, k_O_19_1, k_O_19_2, f_O_19, l_O_19⟩ := bk3 H_O_19
      replace H_O_19 := Lib.hid H_O_19
      have H_T_19 := (hb19.block (g10_7) (blk_lt' H_T_18.out)).trans H_T_18.out
      clear k_T_18_0 k_T_18_1 f_T_18 H_T_18
      obtain ⟨k_T_19_0, k_T_19_1, f_T_19, l_T_19⟩ := bk2 H_T_19
      replace H_T_19 := Lib.hid H_T_19
      have H_B_19 := (hb19.block (w16.heap.size) (blk_lt' H_B_18.out)).trans H_B_18.out
      clear k_B_18_0 k_B_18_1 f_B_18 H_B_18
      obtain ⟨k_B_19_0, k_B_19_1, f_B_19, l_B_19⟩ := bk2 H_B_19
      replace H_B_19 := Lib.hid H_B_19
      replace htr := htr.below hb19
      replace hbor := hbor.below hb19
      have hB19 : Below w.heap.size w w19 := below_via hb19 (by assumption) (by go_size)
      have HUQ := Lib.hid huq
      have HBQ := Lib.hid hbq
      clear huq hbq
      by_cases hyes : bq = true ∧ Int.gcd lo e = 1
      · obtain ⟨rfl, hgc⟩ := hyes
        have ht := (HX.out e lo).1 (by have := HBQ.out; simpa using this.symm)
        obtain ⟨y3, hy3, hv⟩ := HS.out e lo he.1 ht
        have hbm := HTB.out e lo he ⟨lo1, lo2⟩ ht
        have hR := HL.out (lo, y3, e, true) (Or.inl ⟨lo, y3, e, rfl, he, ⟨lo1, lo2⟩, hgc, ht, hy3⟩)
        have hv2 := evV_bd hA hB ⟨lo1, lo2⟩ (e := e) (by omega)
        have hy3b := root_bd hv (by omega)
        have TCV := fun W : World => Lib.hid (curveValue_any A B lo e W hA hB ⟨lo1, lo2⟩ (by omega))
        rw [← hv] at TCV hv2
        have TER := fun W : World => Lib.hid (exactRoot_any (y3 * y3) W (by omega) (by omega))
        rw [exR_sq] at TER
        have TGX := fun W : World => Lib.hid (gcd_any lo e W (by omega) (by omega) (by omega) (by omega))
        rw [show gcdI lo e = 1 by unfold gcdI; omega] at TGX
        have hside := side_sign he.1 he1.1 hmz hy3
        rw [← imp_sd] at hside
        have HSIDE := Lib.hid hside
        clear hside
        have hm8 : -8000 ≤ m ∧ m ≤ 8000 := hbm.1
        have hn8 := bd8 hbm.1 hbm.2
        clear hbm hm hn
        subst hR
        have hr := absI_nonneg y3
        have hr2 : absI y3 ≤ 3000000 := absI_le hy3b.1 hy3b.2
        clear hy3b
        clear ht hy3 hgc hv HL HS HTB HALL HX HUQ HBQ hv2 hA hB hx2 hy2 he2 l7 l7b l8 hb17 HE
        generalize absI y3 = r at *
        generalize y3 * y3 = yy at *
        have u1 := mul_bd (a := x1) (b := e) (A := 10000) (B := 20) (by omega) (by omega)
        have u2 := mul_bd (a := x1*e) (b := e) (A := 200000) (B := 20) (by omega) (by omega)
        have u3 := mul_bd (a := lo) (b := e1) (A := 10000) (B := 20) (by omega) (by omega)
        have u4 := mul_bd (a := lo*e1) (b := e1) (A := 200000) (B := 20) (by omega) (by omega)
        have u5 := mul_bd (a := n) (b := x1*e*e - lo*e1*e1) (A := 1600000) (B := 8000000) (by omega) (by omega)
        have u6 := mul_bd (a := n*(x1*e*e - lo*e1*e1)) (b := e1) (A := 12800000000000) (B := 20) (by omega) (by omega)
        have u7 := mul_bd (a := y1) (b := m) (A := 3000000) (B := 8000) (by omega) (by omega)
        have u8 := mul_bd (a := y1*m) (b := e) (A := 24000000000) (B := 20) (by omega) (by omega)
        have u9 := mul_bd (a := y1*m*e) (b := e) (A := 480000000000) (B := 20) (by omega) (by omega)
        go_upto_region 20 with (first | (go_at_call 32; (with_reducible refine ((TGX _).out).mono ?_); rintro e w' ⟨rfl, nq, rfl⟩))
        go_upto_region 21 with (first | (have _t := tok21; go_at_call 33; (with_reducible refine ((TCV _).out).mono ?_); rintro e w21 ⟨rfl, hb21⟩; clear tok21 _t; have hz21 := hb21.size; (try simp only [World.size_alloc, World.size_setCell, World.size_drew, World.size_drewN'] at hz21)) | (go_at_call 34; (with_reducible refine ((TER _).out).mono ?_); rintro e w' ⟨rfl, rfl⟩))
        replace hb21 := below_via hb21 (below_drewN (Below.refl _ w19) _) (Nat.le_refl _)
        have H_C_21 := (hb21.block (w.heap.size) (blk_lt' H_C_19.out)).trans H_C_19.out
        clear k_C_19_0 k_C_19_1 f_C_19 H_C_19
        obtain ⟨k_C_21_0, k_C_21_1, f_C_21, l_C_21⟩ := bk2 H_C_21
        replace H_C_21 := Lib.hid H_C_21
        have H_P_21 := (hb21.block (w.heap.size + 1) (blk_lt' H_P_19.out)).trans H_P_19.out
        clear k_P_19_0 k_P_19_1 k_P_19_2 f_P_19 H_P_19
        obtain ⟨k_P_21_0, k_P_21_1, k_P_21_2, f_P_21, l_P_21⟩ := bk3 H_P_21
        replace H_P_21 := Lib.hid H_P_21
        have H_O_21 := (hb21.block (w.heap.size + 1 + 1 + 1) (blk_lt' H_O_19.out)).trans H_O_19.out
        clear k_O_19_0 k_O_19_1 k_O_19_2 f_O_19 H_O_19
        obtain ⟨k_O_21_0, k_O_21_1, k_O_21_2, f_O_21, l_O_21⟩ := bk3 H_O_21
        replace H_O_21 := Lib.hid H_O_21
        have H_T_21 := (hb21.block (g10_7) (blk_lt' H_T_19.out)).trans H_T_19.out
        clear k_T_19_0 k_T_19_1 f_T_19 H_T_19
        obtain ⟨k_T_21_0, k_T_21_1, f_T_21, l_T_21⟩ := bk2 H_T_21
        replace H_T_21 := Lib.hid H_T_21
        have H_B_21 := (hb21.block (w16.heap.size) (blk_lt' H_B_19.out)).trans H_B_19.out
        clear k_B_19_0 k_B_19_1 f_B_19 H_B_19
        obtain ⟨k_B_21_0, k_B_21_1, f_B_21, l_B_21⟩ := bk2 H_B_21
        replace H_B_21 := Lib.hid H_B_21
        replace htr := htr.below hb21
        replace hbor := hbor.below hb21
        have hB21 : Below w.heap.size w w21 := below_via hb21 (by assumption) (by go_size)
        clear k_C_21_0
        clear k_C_21_1
        clear f_C_21 H_C_21
        clear k_T_21_0
        clear k_T_21_1
        clear f_T_21 H_T_21
        clear k_B_21_0
        clear k_B_21_1
        clear f_B_21 H_B_21
        try clear ne10_7_C
        try clear ne10_7_P
        try clear ne10_7_Q
        try clear ne10_7_O
        try clear ne10_7_M
        try clear ne10_7_E
        go_upto_region 23 with fail
        replace H_P_21 := H_P_21.out
        replace H_O_21 := H_O_21.out
        refine chk (fun W => Below w.heap.size w W ∧ W.heap[w.heap.size + 1 + 1 + 1]? = some (.cells #[.int .i64 0, .int .i64 0, .int .i64 0] 31 (0, 0))) (by refine ⟨?_, ?_⟩ <;> (repeat' first | (with_reducible first | assumption | (apply Ne.symm; assumption) | apply Nat.le_refl | apply Nat.le_add_right | apply zL | apply zRf | apply Wx.box | apply Wx.box4 | apply zWa | apply Wx.drew | apply zWn | apply bx_drew | apply bx_drewN | apply bx_set3 | apply bx_set2 | apply bx_set4 | apply bx_set1) | ((with_reducible apply bx_new); (focus (go_size; done))) | (with_reducible first | apply zOl | apply zFa | apply zDn | apply zDr | apply zAl | apply zSt | refine zVi (by assumption) ?_ ?_) | go_size | omega)) ?_
        clear k_P_21_0 k_P_21_1 k_P_21_2 f_P_21 H_P_21
        clear k_O_21_0 k_O_21_1 k_O_21_2 f_O_21 H_O_21
        clear hB21
        rintro w22 ⟨hB22, H_O_22⟩
        obtain ⟨k_O_22_0, k_O_22_1, k_O_22_2, f_O_22, l_O_22⟩ := bk3 H_O_22
        replace H_O_22 := Lib.hid H_O_22
        clear u1 u2 u3 u4
        by_cases hs : n*(x1*e*e - lo*e1*e1)*e1 - y1*m*e*e < 0
        · by_cases hm0 : m < 0
          · obtain rfl : y3 = r := by rcases HSIDE.out with ⟨h1, h2⟩ | ⟨h1, h2⟩; exact h2; exact absurd ⟨fun _ => hm0, fun _ => hs⟩ h1
            clear HSIDE
            go_upto_region 25 with fail
            iterate 40 (first | (with_reducible show bodyPost _ _ _ _ _ _) | (with_reducible refine wp_ret ?_) | go_values | go_skip | go_guarded | go_step | go_upon | go_back | skip)
            refine bodyPost_ret (v := .tuple #[.agg #[.int .i64 lo, .int .i64 y3, .int .i64 e], .bool true]) (by simp [results, Try.results21, go_sem, k_O_22_0, k_O_22_1, k_O_22_2]) rfl ⟨rfl, ?_⟩
            have HO := H_O_22.out
            (repeat' first | (with_reducible first | assumption | (apply Ne.symm; assumption) | apply Nat.le_refl | apply Nat.le_add_right | apply zL | apply zRf | apply Wx.box | apply Wx.box4 | apply zWa | apply Wx.drew | apply zWn | apply bx_drew | apply bx_drewN | apply bx_set3 | apply bx_set2 | apply bx_set4 | apply bx_set1) | ((with_reducible apply bx_new); (focus (go_size; done))) | (with_reducible first | apply zOl | apply zFa | apply zDn | apply zDr | apply zAl | apply zSt | refine zVi (by assumption) ?_ ?_) | go_size | omega)
          · obtain rfl : y3 = -r := by rcases HSIDE.out with ⟨h1, h2⟩ | ⟨h1, h2⟩; exact absurd (h1.1 hs) hm0; exact h2
            clear HSIDE
            go_upto_region 25 with fail
            iterate 40 (first | (with_reducible show bodyPost _ _ _ _ _ _) | (with_reducible refine wp_ret ?_) | go_values | go_skip | go_guarded | go_step | go_upon | go_back | skip)
            refine bodyPost_ret (v := .tuple #[.agg #[.int .i64 lo, .int .i64 (-r), .int .i64 e], .bool true]) (by simp [results, Try.results21, go_sem, k_O_22_0, k_O_22_1, k_O_22_2]) rfl ⟨rfl, ?_⟩
            have HO := H_O_22.out
            (repeat' first | (with_reducible first | assumption | (apply Ne.symm; assumption) | apply Nat.le_refl | apply Nat.le_add_right | apply zL | apply zRf | apply Wx.box | apply Wx.box4 | apply zWa | apply Wx.drew | apply zWn | apply bx_drew | apply bx_drewN | apply bx_set3 | apply bx_set2 | apply bx_set4 | apply bx_set1) | ((with_reducible apply bx_new); (focus (go_size; done))) | (with_reducible first | apply zOl | apply zFa | apply zDn | apply zDr | apply zAl | apply zSt | refine zVi (by assumption) ?_ ?_) | go_size | omega)
        · by_cases hm0 : m < 0
          · obtain rfl : y3 = -r := by rcases HSIDE.out with ⟨h1, h2⟩ | ⟨h1, h2⟩; exact absurd (h1.2 hm0) hs; exact h2
            clear HSIDE
            go_upto_region 25 with fail
            iterate 40 (first | (with_reducible show bodyPost _ _ _ _ _ _) | (with_reducible refine wp_ret ?_) | go_values | go_skip | go_guarded | go_step | go_upon | go_back | skip)
            refine bodyPost_ret (v := .tuple #[.agg #[.int .i64 lo, .int .i64 (-r), .int .i64 e], .bool true]) (by simp [results, Try.results21, go_sem, k_O_22_0, k_O_22_1, k_O_22_2]) rfl ⟨rfl, ?_⟩
            have HO := H_O_22.out
            (repeat' first | (with_reducible first | assumption | (apply Ne.symm; assumption) | apply Nat.le_refl | apply Nat.le_add_right | apply zL | apply zRf | apply Wx.box | apply Wx.box4 | apply zWa | apply Wx.drew | apply zWn | apply bx_drew | apply bx_drewN | apply bx_set3 | apply bx_set2 | apply bx_set4 | apply bx_set1) | ((with_reducible apply bx_new); (focus (go_size; done))) | (with_reducible first | apply zOl | apply zFa | apply zDn | apply zDr | apply zAl | apply zSt | refine zVi (by assumption) ?_ ?_) | go_size | omega)
          · obtain rfl : y3 = r := by rcases HSIDE.out with ⟨h1, h2⟩ | ⟨h1, h2⟩; exact h2; exact absurd ⟨fun h => absurd h hs, fun h => absurd h hm0⟩ h1
            clear HSIDE
            go_upto_region 25 with fail
            iterate 40 (first | (with_reducible show bodyPost _ _ _ _ _ _) | (with_reducible refine wp_ret ?_) | go_values | go_skip | go_guarded | go_step | go_upon | go_back | skip)
            refine bodyPost_ret (v := .tuple #[.agg #[.int .i64 lo, .int .i64 y3, .int .i64 e], .bool true]) (by simp [results, Try.results21, go_sem, k_O_22_0, k_O_22_1, k_O_22_2]) rfl ⟨rfl, ?_⟩
            have HO := H_O_22.out
            (repeat' first | (with_reducible first | assumption | (apply Ne.symm; assumption) | apply Nat.le_refl | apply Nat.le_add_right | apply zL | apply zRf | apply Wx.box | apply Wx.box4 | apply zWa | apply Wx.drew | apply zWn | apply bx_drew | apply bx_drewN | apply bx_set3 | apply bx_set2 | apply bx_set4 | apply bx_set1) | ((with_reducible apply bx_new); (focus (go_size; done))) | (with_reducible first | apply zOl | apply zFa | apply zDn | apply zDr | apply zAl | apply zSt | refine zVi (by assumption) ?_ ?_) | go_size | omega)
      · have HALL2 := Lib.hid (show ∀ e x : Int, 1 ≤ e → e ≤ (k + 1 : Nat) → -10000 ≤ x → x ≤ 10000 → Int.gcd x e = 1 → ¬ thX n m x1 e1 x2 e2 e x from fun f x h1 h2 h3 h4 h5 h6 => by
          have hke := HE.out
          by_cases hf : f ≤ k
          · exact HALL.out f x h1 hf h3 h4 h5 h6
          · obtain rfl : f = e := by omega
            have h7 := (HX.out f x).2 h6
            obtain rfl := HUQ.out x h3 h4 h7
            exact hyes ⟨by rw [HBQ.out]; simpa using h7, h5⟩)
        cases bq
        · clear hyes
          go_upto_region 17 with (first | (go_at_call 32; (with_reducible refine ((TGX _).out).mono ?_); rintro e w' ⟨rfl, nq, rfl⟩))
          go_wp2_with fail
          go_roundw
          case rel => exact ⟨k + 1, by have := HE.out; rw [show e + 1 = ((k + 1 : Nat) : Int) + 1 by omega], by omega, HALL2.out, below_via hb19 hb17 hb17.size⟩
          case measure => simp [intOf]; omega
        · have hgq : gcdI lo e ≠ 1 := fun h => hyes ⟨rfl, by unfold gcdI at h; omega⟩
          have TGX := fun W : World => Lib.hid (gcd_any lo e W (by omega) (by omega) (by omega) (by omega))
          generalize gcdI lo e = gq at *
          have hgq' : (gq != 1) = true := by simpa using hgq
          clear hyes
          go_upto_region 17 with (first | (go_at_call 32; (with_reducible refine ((TGX _).out).mono ?_); rintro e w' ⟨rfl, nq, rfl⟩))
          go_wp2_with fail
          go_roundw
          case rel => exact ⟨k + 1, by have := HE.out; rw [show e + 1 = ((k + 1 : Nat) : Int) + 1 by omega], by omega, HALL2.out, below_drewN (below_via hb19 hb17 hb17.size) _⟩
          case measure => simp [intOf]; omega
    · obtain rfl : k = 20 := by omega
      have hR := HL.out (0, 0, 0, false) (Or.inr ⟨rfl, fun e x he hx hg ht => HALL.out e x he.1 (by omega) hx.1 hx.2 hg ht⟩)
      subst hR
      go_upto_region 26 with fail
      iterate 40 (first | (with_reducible show bodyPost _ _ _ _ _ _) | (with_reducible refine wp_ret ?_) | go_values | go_skip | go_guarded | go_step | go_upon | go_back | skip)
      refine bodyPost_ret (v := .tuple #[.agg #[.int .i64 0, .int .i64 0, .int .i64 0], .bool false]) (by simp [results, Try.results21, go_sem, k_O_18_0, k_O_18_1, k_O_18_2]) rfl ⟨rfl, ?_⟩
      have HO := H_O_18.out
      (repeat' first | (with_reducible first | assumption | (apply Ne.symm; assumption) | apply Nat.le_refl | apply Nat.le_add_right | apply zL | apply zRf | apply Wx.box | apply Wx.box4 | apply zWa | apply Wx.drew | apply zWn | apply bx_drew | apply bx_drewN | apply bx_set3 | apply bx_set2 | apply bx_set4 | apply bx_set1) | ((with_reducible apply bx_new); (focus (go_size; done))) | (with_reducible first | apply zOl | apply zFa | apply zDn | apply zDr | apply zAl | apply zSt | refine zVi (by assumption) ?_ ?_) | go_size | omega)
end Go.Proofs.Ytndmacieecmapaa
