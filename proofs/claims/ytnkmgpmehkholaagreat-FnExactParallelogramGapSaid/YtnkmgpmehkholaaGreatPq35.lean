/- Lemmas and contracts of functions. No condition. -/
import Derived.Test.YtnkmgpmehkholaaGreatPq7
import Derived.Test.YtnkmgpmehkholaaGreatPq33
namespace Go.Proofs.YtnkmgpmehkholaaGreat
open Go.RowKit
set_option linter.unusedVariables false
set_option maxHeartbeats 16000000
set_option maxRecDepth 20000
set_option linter.unusedSimpArgs false
attribute [local go_sem] openAt openUpon
theorem td_low (a b : Int) (hb : b ≠ 0) : ∃ n m, a.tdiv (gcdI a b) = n ∧ b.tdiv (gcdI a b) = m ∧ 1 ≤ gcdI a b ∧ a = gcdI a b * n ∧ b = gcdI a b * m ∧ m ≠ 0 ∧ Int.gcd n m = 1 ∧ n.natAbs ≤ a.natAbs ∧ m.natAbs ≤ b.natAbs := by
 have hg : 0 < Int.gcd a b := Int.gcd_pos_of_ne_zero_right _ hb
 obtain ⟨p, hp⟩ := Int.gcd_dvd_left a b
 obtain ⟨q, hq⟩ := Int.gcd_dvd_right a b
 have hc : Int.gcd p q = 1 := by
  have h1 := Int.gcd_mul_left (Int.gcd a b) p q
  rw [← hp, ← hq, Int.natAbs_natCast] at h1
  exact Nat.eq_of_mul_eq_mul_left hg (by omega)
 have hP : a.tdiv (gcdI a b) = p := by
  unfold gcdI
  generalize Int.gcd a b = g at *
  rw [hp]; exact Int.mul_tdiv_cancel_left _ (by omega)
 have hQ : b.tdiv (gcdI a b) = q := by
  unfold gcdI
  generalize Int.gcd a b = g at *
  rw [hq]; exact Int.mul_tdiv_cancel_left _ (by omega)
 have b1 := tdiv_bd a (gcdI a b)
 have b2 := tdiv_bd b (gcdI a b)
 rw [hP] at b1
 rw [hQ] at b2
 refine ⟨p, q, hP, hQ, by unfold gcdI; omega, hp, hq, ?_, hc, b1, b2⟩
 intro h0
 subst h0
 simp at hq
 exact hb hq
theorem exR_sq (y : Int) : exR (y * y) = (absI y, true) := by
 have h : absI y * absI y = y * y := by unfold absI; rw [Int.natAbs_mul_self']
 have h0 := absI_nonneg y
 rw [← h]
 have h1 : rtV (absI y * absI y) = absI y := rtV_sq h0
 have h2 : ¬ absI y * absI y < 0 := by have := Int.mul_nonneg h0 h0; omega
 unfold exR
 rw [if_neg h2, h1, if_pos rfl]
theorem bd8 {n d : Int} (h : -8000 ≤ d ∧ d ≤ 8000) (h2 : -200 * d.natAbs ≤ n ∧ n ≤ 200 * d.natAbs) : -1600000 ≤ n ∧ n ≤ 1600000 := by omega
theorem side_sign {s e m e1 y : Int} (he : 1 ≤ e) (h1 : 1 ≤ e1) (hm : m ≠ 0) (h : s * e = (m*(e1*e1*e1))*y) : ((s < 0 ↔ m < 0) ∧ y = absI y) ∨ (¬ (s < 0 ↔ m < 0) ∧ y = -absI y) := by
 have hc : 0 < e1*e1*e1 := Int.mul_pos (Int.mul_pos (by omega) (by omega)) (by omega)
 have hs : ∀ t : Int, (t < 0 ↔ t * e < 0) := fun t => ⟨fun h => Int.mul_neg_of_neg_of_pos h (by omega), fun h => by
  rcases Int.lt_or_le t 0 with h' | h'
  ·exact h'
  ·have := Int.mul_nonneg h' (show 0 ≤ e by omega); omega⟩
 rw [hs s, h]
 rcases Int.lt_trichotomy y 0 with hy | hy | hy
 ·have ha : absI y = -y := by unfold absI; omega
  right
  refine ⟨?_, by omega⟩
  rcases Int.lt_or_lt_of_ne hm with hm | hm
  ·have : 0 < m*(e1*e1*e1)*y := Int.mul_pos_of_neg_of_neg (Int.mul_neg_of_neg_of_pos hm hc) hy
   omega
  ·have : m*(e1*e1*e1)*y < 0 := Int.mul_neg_of_pos_of_neg (Int.mul_pos hm hc) hy
   omega
 ·subst hy
  simp only [Int.mul_zero, Int.lt_irrefl, false_iff]
  rcases Int.lt_or_lt_of_ne hm with hm | hm
  ·right; exact ⟨by omega, rfl⟩
  ·left; exact ⟨by omega, rfl⟩
 ·have ha : absI y = y := by unfold absI; omega
  left
  refine ⟨?_, by omega⟩
  rcases Int.lt_or_lt_of_ne hm with hm | hm
  ·have : m*(e1*e1*e1)*y < 0 := Int.mul_neg_of_neg_of_pos (Int.mul_neg_of_neg_of_pos hm hc) hy
   omega
  ·have : 0 < m*(e1*e1*e1)*y := Int.mul_pos (Int.mul_pos hm hc) hy
   omega
theorem imp_thX {n m x1 e1 x2 e2 e x : Int} : m*m*(e1*e1*e2*e2)*x = (n*n*(e1*e1*e2*e2) + -(m*m*(x1*e2*e2 + x2*e1*e1)))*(e*e) ↔ thX n m x1 e1 x2 e2 e x := by
 unfold thX
 have a1 : x * (m*m*((e1*e1)*(e2*e2))) = m*m*(e1*e1*e2*e2)*x := by grind
 have a2 : (n*n*((e1*e1)*(e2*e2)) - m*m*(x1*(e2*e2) + x2*(e1*e1)))*(e*e) = (n*n*(e1*e1*e2*e2) + -(m*m*(x1*e2*e2 + x2*e1*e1)))*(e*e) := by grind
 rw [a1, a2]
theorem imp_sd {n m x1 y1 e1 e x : Int} : n*(x1*e*e - x*e1*e1)*e1 - y1*m*e*e = sdV n m x1 y1 e1 e x := by unfold sdV; grind
def AdRel (n m x1 e1 x2 e2 : Int) (w0 : World) (ev : Value) (wr : World) : Prop := ∃ k : Nat, ev = .int .i64 ((k : Int) + 1) ∧ k ≤ 20 ∧ (∀ e x : Int, 1 ≤ e → e ≤ k → -10000 ≤ x → x ≤ 10000 → Int.gcd x e = 1 → ¬ thX n m x1 e1 x2 e2 e x) ∧ Below w0.heap.size w0 wr
def openSQ (p q : Int) : St where
 ok v W := ∃ (lo : Int) (b : Bool), v = .tuple #[.int .i64 lo, .bool b] ∧ b = decide (q * lo = p) ∧ -10000 ≤ lo ∧ lo ≤ 10000 ∧ (∀ z, -10000 ≤ z → z ≤ 10000 → q * z = p → z = lo)
 keep v W W2 h hb := h
theorem open_SQ {f : FuncId} {args : Array Value} {W : World} {p q : Int} (h : Calls Tryz.prog f args W fun e w' => ∃ lo : Int, e = .returned (.tuple #[.int .i64 lo, .bool (decide (q * lo = p))]) ∧ -10000 ≤ lo ∧ lo ≤ 10000 ∧ (∀ z, -10000 ≤ z → z ≤ 10000 → q * z = p → z = lo) ∧ Below W.heap.size W w') :
  Calls Tryz.prog f args W fun e w' => ∃ v, e = .returned v ∧ (openSQ p q).ok v w' ∧ Below W.heap.size W w' :=
 h.mono fun e w' ⟨lo, h1, h2, h3, h4, h5⟩ => ⟨_, h1, ⟨lo, _, rfl, rfl, h2, h3, h4⟩, h5⟩
theorem addPoints_any (A B x1 y1 e1 x2 y2 e2 : Int) (w : World) (hA : -1000 ≤ A ∧ A ≤ 1000) (hB : -10000 ≤ B ∧ B ≤ 10000) (hp : ptB A B x1 y1 e1 = true) (hq : ptB A B x2 y2 e2 = true) :
  Calls Tryz.prog 28 #[.agg #[.int .i64 A, .int .i64 B], .agg #[.int .i64 x1, .int .i64 y1, .int .i64 e1], .agg #[.int .i64 x2, .int .i64 y2, .int .i64 e2]] w fun e w' =>
   e = .returned (.tuple #[.agg #[.int .i64 (ptS A x1 y1 e1 x2 y2 e2).1, .int .i64 (ptS A x1 y1 e1 x2 y2 e2).2.1, .int .i64 (ptS A x1 y1 e1 x2 y2 e2).2.2.1], .bool (ptS A x1 y1 e1 x2 y2 e2).2.2.2]) ∧ Below w.heap.size w w' := by
 rcases pt_cases hA hB hp with ⟨rfl, rfl, rfl⟩ | ⟨he1, hx1, hy1, hg1, hc1⟩
 ·rw [show ptS A 0 0 0 x2 y2 e2 = (x2, y2, e2, true) by simp [ptS]]
  clear hp hq
  go_enter Tryz.func28, Tryz.ntmps28
  go_wp2_with fail
  refine bodyPost_ret (v := _) (by simp [results, Tryz.results28, go_sem, *]) rfl ⟨rfl, ?_⟩
  exact bel
 rcases pt_cases hA hB hq with ⟨rfl, rfl, rfl⟩ | ⟨he2, hx2, hy2, hg2, hc2⟩
 ·rw [show ptS A x1 y1 e1 0 0 0 = (x1, y1, e1, true) by simp [ptS]; omega]
  have hz1 : e1 ≠ 0 := by omega
  clear hp hq
  go_enter Tryz.func28, Tryz.ntmps28
  go_wp2_with fail
  refine bodyPost_ret (v := _) (by simp [results, Tryz.results28, go_sem, *]) rfl ⟨rfl, ?_⟩
  exact bel
 have hz1 : e1 ≠ 0 := by omega
 have hz2 : e2 ≠ 0 := by omega
 have hzb1 : (e1 == 0) = false := by simpa using hz1
 have hzb2 : (e2 == 0) = false := by simpa using hz2
 have HZ := sl_zero he1.1 he2.1 hg1 hg2 hc1 hc2
 have hq := fun (W : World) => eql_pt2 x1 y1 e1 x2 (-y2) e2 W
 obtain ⟨R, hR⟩ : ∃ v, ptS A x1 y1 e1 x2 y2 e2 = v := ⟨_, rfl⟩
 rw [hR]
 by_cases hz : x1 = x2 ∧ y1 = -y2 ∧ e1 = e2
 ·rw [show ptS A x1 y1 e1 x2 y2 e2 = (0, 0, 0, true) by simp only [ptS, if_neg hz1, if_neg hz2, if_pos hz]] at hR
  subst hR
  rw [show decide (x1 = x2 ∧ y1 = -y2 ∧ e1 = e2) = true by simpa using hz] at hq
  clear hp hc1 hc2 hg1 hg2 HZ hz
  have tok1 := trivial
  have tok2 := trivial
  have tok3 := trivial
  go_enter Tryz.func28, Tryz.ntmps28
  go_upto_region 5 with fail
  refine chk (fun W => Below w.heap.size w W ∧ W.heap[w.heap.size]? = some (.cells #[.int .i64 A, .int .i64 B] 32 (0, 0)) ∧ W.heap[w.heap.size + 1]? = some (.cells #[.int .i64 x1, .int .i64 y1, .int .i64 e1] 34 (0, 0)) ∧ W.heap[w.heap.size + 1 + 1]? = some (.cells #[.int .i64 x2, .int .i64 y2, .int .i64 e2] 34 (0, 0)) ∧ W.heap[w.heap.size + 1 + 1 + 1]? = some (.cells #[.int .i64 0, .int .i64 0, .int .i64 0] 34 (0, 0))) (by refine ⟨?_, ?_, ?_, ?_, ?_⟩ <;> (exact ck)) ?_
  rintro w1 ⟨hB1, qd, qe, qf, qg⟩
  obtain ⟨yx, yz, wu, Ji⟩ := bk2 qd
  replace qd := Lib.hid qd
  obtain ⟨qr, qt, qu, wv, Jj⟩ := bk3 qe
  replace qe := Lib.hid qe
  obtain ⟨qv, qw, qx, ww, Jk⟩ := bk3 qf
  replace qf := Lib.hid qf
  obtain ⟨va, vb, vc, wy, Jl⟩ := bk3 qg
  replace qg := Lib.hid qg
  refine wp_open (n := 4) (by kernel_rfl) (by kernel_rfl) (by kernel_rfl) (by kernel_rfl) ?_
  simp only [List.take_succ_cons, List.take_zero]
  apply wpS_quiet
  ·intro γ W hW hp
   have hs := hW.size
   (try simp only [sA, sB, sC, sD] at hs)
   have qh := fun x => (xcA hW (w.heap.size + 1) 0 (by first | omega | go_size) x).trans qr
   have qi := fun x => (xcA hW (w.heap.size + 1) 1 (by first | omega | go_size) x).trans qt
   have ji := fun x => (xcA hW (w.heap.size + 1) 2 (by first | omega | go_size) x).trans qu
   clear hW hp
   refine ⟨rfl, ?_⟩
   go_big_quiet_op
   first | exact rfl
  ·exact locS_const _
  try simp only [Act.put, List.setIfInBounds_toArray, List.set_cons_succ, List.set_cons_zero, Nat.reduceAdd]
  apply wpS_quiet
  ·intro γ W hW hp
   have hs := hW.size
   (try simp only [sA, sB, sC, sD] at hs)
   have qh := fun x => (xcA hW (w.heap.size + 1 + 1) 0 (by first | omega | go_size) x).trans qv
   have qi := fun x => (xcA hW (w.heap.size + 1 + 1) 1 (by first | omega | go_size) x).trans qw
   have ji := fun x => (xcA hW (w.heap.size + 1 + 1) 2 (by first | omega | go_size) x).trans qx
   clear hW hp
   refine ⟨rfl, ?_⟩
   go_big_quiet_op
   first | exact rfl
  ·exact locS_const _
  try simp only [Act.put, List.setIfInBounds_toArray, List.set_cons_succ, List.set_cons_zero, Nat.reduceAdd]
  apply wpS_quiet
  ·intro γ W hW hp
   refine ⟨rfl, ?_⟩
   go_big_quiet_op
   apply Exists.intro
   refine ⟨fun x => ?_, ?_⟩
   ·(first | (go_at_call 29; exact draw_of _ (opposite_any x2 y2 e2 _ (by omega))))
   exact rfl
  ·exact locS_const _
  try simp only [Act.put, List.setIfInBounds_toArray, List.set_cons_succ, List.set_cons_zero, Nat.reduceAdd]
  apply wpS_quiet
  ·intro γ W hW hp
   refine ⟨rfl, ?_⟩
   go_big_quiet_op
   first | exact rfl
  ·exact locS_const _
  try simp only [Act.put, List.setIfInBounds_toArray, List.set_cons_succ, List.set_cons_zero, Nat.reduceAdd]
  apply wpS_end
  intro γ w2 hb2 hG2 hA2
  clear hG2 hA2
  simp only [List.drop_succ_cons, List.drop_zero]
  have hz2 := hb2.size
  (try simp only [sA, sB, sC, sD] at hz2)
  have qk := (hb2.block (w.heap.size) (blk_lt' qd.out)).trans qd.out
  clear yx yz wu qd
  obtain ⟨vw, vy, ct, Jm⟩ := bk2 qk
  replace qk := Lib.hid qk
  have ql := (hb2.block (w.heap.size + 1) (blk_lt' qe.out)).trans qe.out
  clear qr qt qu wv qe
  obtain ⟨wc, wd, wg, cu, Jn⟩ := bk3 ql
  replace ql := Lib.hid ql
  have qm := (hb2.block (w.heap.size + 1 + 1) (blk_lt' qf.out)).trans qf.out
  clear qv qw qx ww qf
  obtain ⟨wi, wj, wk, cw, Jo⟩ := bk3 qm
  replace qm := Lib.hid qm
  have qj := (hb2.block (w.heap.size + 1 + 1 + 1) (blk_lt' qg.out)).trans qg.out
  clear va vb vc wy qg
  obtain ⟨vd, vf, vg, cx, Jp⟩ := bk3 qj
  replace qj := Lib.hid qj
  have hB2 : Below w.heap.size w w2 := below_via hb2 (by assumption) (by go_size)
  iterate 24 (first | (with_reducible show bodyPost _ _ _ _ _ _) | (with_reducible refine wp_ret ?_) | go_values | go_skip | go_guarded | go_step | go_upon | go_back | skip)
  refine bodyPost_ret (v := .tuple #[.agg #[.int .i64 0, .int .i64 0, .int .i64 0], .bool true]) (by simp [results, Tryz.results28, go_sem, vd, vf, vg]) rfl ⟨rfl, ?_⟩
  have HO := qj.out
  (exact ck)
 rw [show decide (x1 = x2 ∧ y1 = -y2 ∧ e1 = e2) = false by simpa using hz] at hq
 rw [ptS_thV hz1 hz2 hz] at hR
 have hzd : slD x1 y1 e1 x2 y2 e2 ≠ 0 := fun t => hz (HZ.1 t)
 have hcv := fun (e x : Int) he h => sl_curve (e := e) (x := x) he1.1 he2.1 hc1 hc2 hzd he h
 have hbd := sl_bd hA hx1 hx2 hy1 hy2 he1 he2
 have hb1 : -48000000000 ≤ slN A x1 y1 e1 x2 y2 e2 ∧ slN A x1 y1 e1 x2 y2 e2 ≤ 48000000000 := by unfold slN; split <;> omega
 have hb2 : -3200000000 ≤ slD x1 y1 e1 x2 y2 e2 ∧ slD x1 y1 e1 x2 y2 e2 ≤ 3200000000 := by unfold slD; split <;> omega
 have TS := fun W : World => Lib.hid (slope_any A B x1 y1 e1 x2 y2 e2 W hA hx1 hx2 hy1 hy2 he1 he2)
 obtain ⟨n, m, hn0, hm0, hgp, hgn, hgm, hmz, hcop, hnb, hmb⟩ := td_low (slN A x1 y1 e1 x2 y2 e2) (slD x1 y1 e1 x2 y2 e2) hzd
 have TG := fun W : World => Lib.hid (gcd_any (slN A x1 y1 e1 x2 y2 e2) (slD x1 y1 e1 x2 y2 e2) W (by omega) (by omega) (by omega) (by omega))
 have hlow : ∀ r, Third n m x1 y1 e1 x2 e2 r → R = r := fun r h => by
  rw [← hR]
  have := thV_scaled (g := gcdI (slN A x1 y1 e1 x2 y2 e2) (slD x1 y1 e1 x2 y2 e2)) (by omega) hmz hz1 hz2 h
  rw [← hgn, ← hgm] at this
  exact this
 have hS : ∀ e x : Int, 1 ≤ e → thX n m x1 e1 x2 e2 e x → ∃ y, sdV n m x1 y1 e1 e x * e = (m*(e1*e1*e1))*y ∧ y*y = evV A B x e := by
  intro e x he ht
  have hg0 : gcdI (slN A x1 y1 e1 x2 y2 e2) (slD x1 y1 e1 x2 y2 e2) ≠ 0 := by omega
  have q := (thX_scale hg0 ..).2 ht
  rw [← hgn, ← hgm] at q
  obtain ⟨y, h1, h2⟩ := hcv e x he q
  exact ⟨y, (sd_scale hg0 ..).1 (by rw [← hgn, ← hgm]; exact h1), h2⟩
 have hthb := fun (e x : Int) (h3 : 1 ≤ e ∧ e ≤ 20) (hx : -10000 ≤ x ∧ x ≤ 10000) ht => third_bd (n := n) (d := m) (e := e) (x := x) hcop hmz he1 he2 h3 hx1 hx2 hx ht
 have HD0 := Lib.hid hn0
 clear hcv hgn hgm HZ hp hc1 hc2 hg1 hg2 hbd hR hz hzd hcop
 generalize slN A x1 y1 e1 x2 y2 e2 = N at *
 generalize slD x1 y1 e1 x2 y2 e2 = M at *
 generalize gcdI N M = g at *
 have hgz : g ≠ 0 := by omega
 have hn : -48000000000 ≤ n ∧ n ≤ 48000000000 := by omega
 have hm : -3200000000 ≤ m ∧ m ≤ 3200000000 := by omega
 have HHN := Lib.hid hn0
 have HHM := Lib.hid hm0
 clear hnb hmb hn0 hm0 HD0
 have HS := Lib.hid hS
 have HL := Lib.hid hlow
 have HTB := Lib.hid hthb
 clear hS hlow hthb
 have tok1 := trivial
 have tok2 := trivial
 have tok3 := trivial
 have tok4 := trivial
 have tok5 := trivial
 have tok6 := trivial
 have tok7 := trivial
 have tok8 := trivial
 have tok9 := trivial
 have tok10 := trivial
 have tok11 := trivial
 have tok12 := trivial
 have tok13 := trivial
 have tok14 := trivial
 have tok15 := trivial
 have tok16 := trivial
 have tok17 := trivial
 have tok18 := trivial
 have tok19 := trivial
 have tok20 := trivial
 have tok21 := trivial
 have tok22 := trivial
 have tok23 := trivial
 have tok24 := trivial
 have tok25 := trivial
 have tok26 := trivial
 have tok27 := trivial
 have tok28 := trivial
 have tok29 := trivial
 have tok30 := trivial
 go_enter Tryz.func28, Tryz.ntmps28
 go_upto_region 5 with fail
 refine chk (fun W => Below w.heap.size w W ∧ W.heap[w.heap.size]? = some (.cells #[.int .i64 A, .int .i64 B] 32 (0, 0)) ∧ W.heap[w.heap.size + 1]? = some (.cells #[.int .i64 x1, .int .i64 y1, .int .i64 e1] 34 (0, 0)) ∧ W.heap[w.heap.size + 1 + 1]? = some (.cells #[.int .i64 x2, .int .i64 y2, .int .i64 e2] 34 (0, 0)) ∧ W.heap[w.heap.size + 1 + 1 + 1]? = some (.cells #[.int .i64 0, .int .i64 0, .int .i64 0] 34 (0, 0))) (by refine ⟨?_, ?_, ?_, ?_, ?_⟩ <;> (exact ck)) ?_
 rintro w1 ⟨hB1, qd, qe, qf, qg⟩
 obtain ⟨yx, yz, wu, Ji⟩ := bk2 qd
 replace qd := Lib.hid qd
 obtain ⟨qr, qt, qu, wv, Jj⟩ := bk3 qe
 replace qe := Lib.hid qe
 obtain ⟨qv, qw, qx, ww, Jk⟩ := bk3 qf
 replace qf := Lib.hid qf
 obtain ⟨va, vb, vc, wy, Jl⟩ := bk3 qg
 replace qg := Lib.hid qg
 refine wp_open (n := 4) (by kernel_rfl) (by kernel_rfl) (by kernel_rfl) (by kernel_rfl) ?_
 simp only [List.take_succ_cons, List.take_zero]
 apply wpS_quiet
 ·intro γ W hW hp
  have hs := hW.size
  (try simp only [sA, sB, sC, sD] at hs)
  have qh := fun x => (xcA hW (w.heap.size + 1) 0 (by first | omega | go_size) x).trans qr
  have qi := fun x => (xcA hW (w.heap.size + 1) 1 (by first | omega | go_size) x).trans qt
  have ji := fun x => (xcA hW (w.heap.size + 1) 2 (by first | omega | go_size) x).trans qu
  clear hW hp
  refine ⟨rfl, ?_⟩
  go_big_quiet_op
  first | exact rfl
 ·exact locS_const _
 try simp only [Act.put, List.setIfInBounds_toArray, List.set_cons_succ, List.set_cons_zero, Nat.reduceAdd]
 apply wpS_quiet
 ·intro γ W hW hp
  have hs := hW.size
  (try simp only [sA, sB, sC, sD] at hs)
  have qh := fun x => (xcA hW (w.heap.size + 1 + 1) 0 (by first | omega | go_size) x).trans qv
  have qi := fun x => (xcA hW (w.heap.size + 1 + 1) 1 (by first | omega | go_size) x).trans qw
  have ji := fun x => (xcA hW (w.heap.size + 1 + 1) 2 (by first | omega | go_size) x).trans qx
  clear hW hp
  refine ⟨rfl, ?_⟩
  go_big_quiet_op
  first | exact rfl
 ·exact locS_const _
 try simp only [Act.put, List.setIfInBounds_toArray, List.set_cons_succ, List.set_cons_zero, Nat.reduceAdd]
 apply wpS_quiet
 ·intro γ W hW hp
  refine ⟨rfl, ?_⟩
  go_big_quiet_op
  apply Exists.intro
  refine ⟨fun x => ?_, ?_⟩
  ·(first | (go_at_call 29; exact draw_of _ (opposite_any x2 y2 e2 _ (by omega))))
  exact rfl
 ·exact locS_const _
 try simp only [Act.put, List.setIfInBounds_toArray, List.set_cons_succ, List.set_cons_zero, Nat.reduceAdd]
 apply wpS_quiet
 ·intro γ W hW hp
  refine ⟨rfl, ?_⟩
  go_big_quiet_op
  first | exact rfl
 ·exact locS_const _
 try simp only [Act.put, List.setIfInBounds_toArray, List.set_cons_succ, List.set_cons_zero, Nat.reduceAdd]
 apply wpS_end
 intro γ w2 hb2 hG2 hA2
 clear hG2 hA2
 simp only [List.drop_succ_cons, List.drop_zero]
 have hz2 := hb2.size
 (try simp only [sA, sB, sC, sD] at hz2)
 have qk := (hb2.block (w.heap.size) (blk_lt' qd.out)).trans qd.out
 clear yx yz wu qd
 obtain ⟨vw, vy, ct, Jm⟩ := bk2 qk
 replace qk := Lib.hid qk
 have ql := (hb2.block (w.heap.size + 1) (blk_lt' qe.out)).trans qe.out
 clear qr qt qu wv qe
 obtain ⟨wc, wd, wg, cu, Jn⟩ := bk3 ql
 replace ql := Lib.hid ql
 have qm := (hb2.block (w.heap.size + 1 + 1) (blk_lt' qf.out)).trans qf.out
 clear qv qw qx ww qf
 obtain ⟨wi, wj, wk, cw, Jo⟩ := bk3 qm
 replace qm := Lib.hid qm
 have qj := (hb2.block (w.heap.size + 1 + 1 + 1) (blk_lt' qg.out)).trans qg.out
 clear va vb vc wy qg
 obtain ⟨vd, vf, vg, cx, Jp⟩ := bk3 qj
 replace qj := Lib.hid qj
 have hB2 : Below w.heap.size w w2 := below_via hb2 (by assumption) (by go_size)
 clear hq
 go_upto_region 8 with (first | (have _t := tok3; go_at_call 51; (with_reducible refine ((TS _).out).mono ?_); rintro e w3 ⟨rfl, hb3⟩; clear tok3 _t; have hz3 := hb3.size; (try simp only [sA, sB, sC, sD] at hz3)) | (go_at_call 36; (with_reducible refine ((TG _).out).mono ?_); rintro e w' ⟨rfl, nq, rfl⟩))
 have ju := (hb3.block (w.heap.size) (blk_lt' qk.out)).trans qk.out
 clear vw vy ct qk
 obtain ⟨nd, nf, Jq, Uf⟩ := bk2 ju
 replace ju := Lib.hid ju
 have jv := (hb3.block (w.heap.size + 1) (blk_lt' ql.out)).trans ql.out
 clear wc wd wg cu ql
 obtain ⟨ng, nh, ni, Jr, Ug⟩ := bk3 jv
 replace jv := Lib.hid jv
 have jw := (hb3.block (w.heap.size + 1 + 1) (blk_lt' qm.out)).trans qm.out
 clear wi wj wk cw qm
 obtain ⟨nj, nk, nl, Js, Uh⟩ := bk3 jw
 replace jw := Lib.hid jw
 have jx := (hb3.block (w.heap.size + 1 + 1 + 1) (blk_lt' qj.out)).trans qj.out
 clear vd vf vg cx qj
 obtain ⟨nm, np, nr, Jt, Ui⟩ := bk3 jx
 replace jx := Lib.hid jx
 have hB3 : Below w.heap.size w w3 := below_via hb3 (by assumption) (by go_size)
 clear TS
 go_upto_region 9 with (first | (have _t := tok3; go_at_call 51; (with_reducible refine ((TS _).out).mono ?_); rintro e w3 ⟨rfl, hb3⟩; clear tok3 _t; have hz3 := hb3.size; (try simp only [sA, sB, sC, sD] at hz3)) | (go_at_call 36; (with_reducible refine ((TG _).out).mono ?_); rintro e w' ⟨rfl, nq, rfl⟩))
 go_region
 rw [HHN.out, HHM.out]
 clear TG HHN HHM hgz hgp hb1 hb2
 have lm : ln m ≤ 10000 := Nat.le_trans (ln_small (by omega) (by omega)) (by omega)
 have lnn : ln n ≤ 10000 := Nat.le_trans (ln_small (by omega) (by omega)) (by omega)
 have lm5 : ln m ≤ 5 := ln_small (by omega) (by omega)
 have ln5 : ln n ≤ 5 := ln_small (by omega) (by omega)
 have TM := fun W : World => wholeOf_any m W (by omega) (by omega)
 have TN := fun W : World => wholeOf_any n W (by omega) (by omega)
 obtain ⟨mm, hmm⟩ : ∃ v, m * m = v := ⟨_, rfl⟩
 obtain ⟨nn, hnn⟩ : ∃ v, n * n = v := ⟨_, rfl⟩
 obtain ⟨ee, hee0⟩ : ∃ v, e1*e1*e2*e2 = v := ⟨_, rfl⟩
 obtain ⟨sm, hsm⟩ : ∃ v, x1*e2*e2 + x2*e1*e1 = v := ⟨_, rfl⟩
 obtain ⟨t1, ht10⟩ : ∃ v, nn * ee = v := ⟨_, rfl⟩
 obtain ⟨t2, ht2⟩ : ∃ v, mm * sm = v := ⟨_, rfl⟩
 obtain ⟨t, ht⟩ : ∃ v, t1 + -t2 = v := ⟨_, rfl⟩
 obtain ⟨bo, hbo0⟩ : ∃ v, mm * ee = v := ⟨_, rfl⟩
 have wk1 := mul_bd (a := e1) (b := e1) (A := 20) (B := 20) (by omega) (by omega)
 have wk2 := mul_bd (a := e1*e1) (b := e2) (A := 400) (B := 20) (by omega) (by omega)
 have wk3 := mul_bd (a := e1*e1*e2) (b := e2) (A := 8000) (B := 20) (by omega) (by omega)
 have wk4 := mul_bd (a := x1) (b := e2) (A := 10000) (B := 20) (by omega) (by omega)
 have wk5 := mul_bd (a := x1*e2) (b := e2) (A := 200000) (B := 20) (by omega) (by omega)
 have wk6 := mul_bd (a := x2) (b := e1) (A := 10000) (B := 20) (by omega) (by omega)
 have wk7 := mul_bd (a := x2*e1) (b := e1) (A := 200000) (B := 20) (by omega) (by omega)
 have TE := fun W : World => wholeOf_any (e1*e1*e2*e2) W (by omega) (by omega)
 have TU := fun W : World => wholeOf_any (x1*e2*e2 + x2*e1*e1) W (by omega) (by omega)
 have q1 : ln ee ≤ 5 := by rw [← hee0]; exact ln_small (by omega) (by omega)
 have q2 : ln sm ≤ 5 := by rw [← hsm]; exact ln_small (by omega) (by omega)
 have q3 : ln mm ≤ 10 := by rw [← hmm]; exact ln_mul_le lm5 lm5
 have q4 : ln nn ≤ 10 := by rw [← hnn]; exact ln_mul_le ln5 ln5
 have q5 : ln t1 ≤ 15 := by rw [← ht10]; exact ln_mul_le q4 q1
 have q6 : ln t2 ≤ 15 := by rw [← ht2]; exact ln_mul_le q3 q2
 have q7 : ln t ≤ 16 := by rw [← ht]; exact ln_add_le q5 (by rw [ln_neg]; exact q6)
 have q8 : ln bo ≤ 15 := by rw [← hbo0]; exact ln_mul_le q3 q1
 have l1 : ln nn ≤ 10000 := by omega
 have l2 : ln ee ≤ 10000 := by omega
 have l3 : ln mm ≤ 10000 := by omega
 have l4 : ln sm ≤ 10000 := by omega
 have l5 : ln t1 ≤ 10000 := by omega
 have l6 : ln (-t2) ≤ 10000 := by rw [ln_neg]; omega
 have HBP := Lib.hid (show 0 < bo by
  have h1 : 0 < m * m := by rcases Int.lt_or_lt_of_ne hmz with h | h; exact Int.mul_pos_of_neg_of_neg h h; exact Int.mul_pos h h
  have h2 : 0 < e1*e1*e2*e2 := Int.mul_pos (Int.mul_pos (Int.mul_pos (by omega) (by omega)) (by omega)) (by omega)
  rw [← hbo0, ← hmm, ← hee0]; exact Int.mul_pos h1 h2)
 have HX := Lib.hid (show ∀ e x : Int, bo * x = t * (e * e) ↔ thX n m x1 e1 x2 e2 e x from fun e x => by
  rw [← hbo0, ← ht, ← ht10, ← ht2, ← hmm, ← hnn, ← hee0, ← hsm]; exact imp_thX)
 rw [hee0] at TE
 rw [hsm] at TU
 have HM2 := Lib.hid hmm
 have HNN := Lib.hid hnn
 have HT1 := Lib.hid ht10
 have HT2 := Lib.hid ht2
 have HT := Lib.hid ht
 have HB := Lib.hid hbo0
 have HE0 := hee0
 have HS0 := hsm
 clear hmm hnn ht10 ht2 ht hbo0 hee0 hsm
 go_upto_region 10 with fail
 replace ju := ju.out
 replace jv := jv.out
 replace jw := jw.out
 replace jx := jx.out
 refine chk (fun W => Below w.heap.size w W ∧ W.heap[w.heap.size]? = some (.cells #[.int .i64 A, .int .i64 B] 32 (0, 0)) ∧ W.heap[w.heap.size + 1]? = some (.cells #[.int .i64 x1, .int .i64 y1, .int .i64 e1] 34 (0, 0)) ∧ W.heap[w.heap.size + 1 + 1]? = some (.cells #[.int .i64 x2, .int .i64 y2, .int .i64 e2] 34 (0, 0)) ∧ W.heap[w.heap.size + 1 + 1 + 1]? = some (.cells #[.int .i64 0, .int .i64 0, .int .i64 0] 34 (0, 0))) (by refine ⟨?_, ?_, ?_, ?_, ?_⟩ <;> (exact ck)) ?_
 clear nd nf Jq ju
 clear ng nh ni Jr jv
 clear nj nk nl Js jw
 clear nm np nr Jt jx
 clear hB3
 rintro w40 ⟨hB40, qy, qz, xc, xd⟩
 obtain ⟨ui, uj, Qy, Yu⟩ := bk2 qy
 replace qy := Lib.hid qy
 obtain ⟨uk, ul, um, Qz, Yv⟩ := bk3 qz
 replace qz := Lib.hid qz
 obtain ⟨un, uo, uq, Xa, Yw⟩ := bk3 xc
 replace xc := Lib.hid xc
 obtain ⟨ur, us, ut, Xb, Yx⟩ := bk3 xd
 replace xd := Lib.hid xd
 go_upto_region 11 with (first | (have _t := tok4; go_at_call 53; (with_reducible refine ((TM _)).mono ?_); rintro e w4 ⟨b4, a4, n4, c4, rfl, h4, f4, hb4⟩; clear tok4 _t; have hz4 := hb4.size; (try simp only [sA, sB, sC, sD] at hz4)) | (have _t := tok5; go_at_call 53; (with_reducible refine ((TM _)).mono ?_); rintro e w5 ⟨b5, a5, n5, c5, rfl, h5, f5, hb5⟩; clear tok5 _t; have hz5 := hb5.size; (try simp only [sA, sB, sC, sD] at hz5)) | (have _t := tok6; go_at_call 52; refine (mulWholes_eq (h4.below hb5) h5 HM2.out lm lm).mono ?_; rintro e w6 ⟨b6, a6, n6, c6, rfl, hm2, f6, hb6⟩; clear tok6 _t; have hz6 := hb6.size; (try simp only [sA, sB, sC, sD] at hz6)))
 replace hb6 := below_via hb6 (below_via hb5 hb4 (by have := hb4.size; omega)) (by have := hb4.size; have := hb5.size; omega)
 have jy := (hb6.block (w.heap.size) (blk_lt' qy.out)).trans qy.out
 clear ui uj Qy qy
 obtain ⟨nt, nu, Ju, Uj⟩ := bk2 jy
 replace jy := Lib.hid jy
 have jz := (hb6.block (w.heap.size + 1) (blk_lt' qz.out)).trans qz.out
 clear uk ul um Qz qz
 obtain ⟨nx, ny, nz, Jv, Uk⟩ := bk3 jz
 replace jz := Lib.hid jz
 have ya := (hb6.block (w.heap.size + 1 + 1) (blk_lt' xc.out)).trans xc.out
 clear un uo uq Xa xc
 obtain ⟨ma, mb, mc, Jw, Ul⟩ := bk3 ya
 replace ya := Lib.hid ya
 have yb := (hb6.block (w.heap.size + 1 + 1 + 1) (blk_lt' xd.out)).trans xd.out
 clear ur us ut Xb xd
 obtain ⟨me, mf, mg, Jx, Um⟩ := bk3 yb
 replace yb := Lib.hid yb
 have hB6 : Below w.heap.size w w6 := below_via hb6 (by assumption) (by go_size)
 clear h4 h5 f4 f5 f6 hb4 hb5
 replace jy := jy.out
 replace jz := jz.out
 replace ya := ya.out
 replace yb := yb.out
 refine chk (fun W => Below w.heap.size w W ∧ W.heap[w.heap.size]? = some (.cells #[.int .i64 A, .int .i64 B] 32 (0, 0)) ∧ W.heap[w.heap.size + 1]? = some (.cells #[.int .i64 x1, .int .i64 y1, .int .i64 e1] 34 (0, 0)) ∧ W.heap[w.heap.size + 1 + 1]? = some (.cells #[.int .i64 x2, .int .i64 y2, .int .i64 e2] 34 (0, 0)) ∧ W.heap[w.heap.size + 1 + 1 + 1]? = some (.cells #[.int .i64 0, .int .i64 0, .int .i64 0] 34 (0, 0)) ∧ W.heap[w6.heap.size]? = some (.cells #[.bool b6, .slice a6 n6 c6] 80 (0, 0)) ∧ Wx W b6 a6 n6 c6 mm) (by refine ⟨?_, ?_, ?_, ?_, ?_, ?_, ?_⟩ <;> (exact ck)) ?_
 try clear hm2
 clear nt nu Ju jy
 clear nx ny nz Jv jz
 clear ma mb mc Jw ya
 clear me mf mg Jx yb
 clear hB6
 rintro w7 ⟨hB7, yc, yd, ye, yf, yg, hm2'⟩
 obtain ⟨mh, mi, Jy, Un⟩ := bk2 yc
 replace yc := Lib.hid yc
 obtain ⟨mj, ml, mn, Jz, Uo⟩ := bk3 yd
 replace yd := Lib.hid yd
 obtain ⟨mo, mp, mq, Ya, Up⟩ := bk3 ye
 replace ye := Lib.hid ye
 obtain ⟨mr, mu, mv, Yb, Uq⟩ := bk3 yf
 replace yf := Lib.hid yf
 obtain ⟨mw, mx, Yc, Ur⟩ := bk2 yg
 replace yg := Lib.hid yg
 have hm2 := hm2'
 clear hm2'
 go_upto_region 12 with (first | (have _t := tok8; go_at_call 53; (with_reducible refine ((TE _)).mono ?_); rintro e w8 ⟨b8, a8, n8, c8, rfl, hee, f8, hb8⟩; clear tok8 _t; have hz8 := hb8.size; (try simp only [sA, sB, sC, sD] at hz8)))
 have yh := (hb8.block (w.heap.size) (blk_lt' yc.out)).trans yc.out
 clear mh mi Jy yc
 obtain ⟨my, mz, Yd, Us⟩ := bk2 yh
 replace yh := Lib.hid yh
 have yi := (hb8.block (w.heap.size + 1) (blk_lt' yd.out)).trans yd.out
 clear mj ml mn Jz yd
 obtain ⟨Qa, Qb, Qc, Ye, Ut⟩ := bk3 yi
 replace yi := Lib.hid yi
 have yj := (hb8.block (w.heap.size + 1 + 1) (blk_lt' ye.out)).trans ye.out
 clear mo mp mq Ya ye
 obtain ⟨Qd, Qe, Qf, Yf, Uu⟩ := bk3 yj
 replace yj := Lib.hid yj
 have yk := (hb8.block (w.heap.size + 1 + 1 + 1) (blk_lt' yf.out)).trans yf.out
 clear mr mu mv Yb yf
 obtain ⟨Qg, Qh, Qi, Yg, Uv⟩ := bk3 yk
 replace yk := Lib.hid yk
 have yl := (hb8.block (w6.heap.size) (blk_lt' yg.out)).trans yg.out
 clear mw mx Yc yg
 obtain ⟨Qj, Qk, Yh, Uw⟩ := bk2 yl
 replace yl := Lib.hid yl
 replace hm2 := hm2.below hb8
 have hB8 : Below w.heap.size w w8 := below_via hb8 (by assumption) (by go_size)
 clear f8 TM TE
 replace yh := yh.out
 replace yi := yi.out
 replace yj := yj.out
 replace yk := yk.out
 replace yl := yl.out
 refine chk (fun W => Below w.heap.size w W ∧ W.heap[w.heap.size]? = some (.cells #[.int .i64 A, .int .i64 B] 32 (0, 0)) ∧ W.heap[w.heap.size + 1]? = some (.cells #[.int .i64 x1, .int .i64 y1, .int .i64 e1] 34 (0, 0)) ∧ W.heap[w.heap.size + 1 + 1]? = some (.cells #[.int .i64 x2, .int .i64 y2, .int .i64 e2] 34 (0, 0)) ∧ W.heap[w.heap.size + 1 + 1 + 1]? = some (.cells #[.int .i64 0, .int .i64 0, .int .i64 0] 34 (0, 0)) ∧ W.heap[w6.heap.size]? = some (.cells #[.bool b6, .slice a6 n6 c6] 80 (0, 0)) ∧ W.heap[w8.heap.size]? = some (.cells #[.bool b8, .slice a8 n8 c8] 80 (0, 0)) ∧ Wx W b6 a6 n6 c6 mm ∧ Wx W b8 a8 n8 c8 ee) (by refine ⟨?_, ?_, ?_, ?_, ?_, ?_, ?_, ?_, ?_⟩ <;> (exact ck)) ?_
 try clear hm2
 try clear hee
 clear my mz Yd yh
 clear Qa Qb Qc Ye yi
 clear Qd Qe Qf Yf yj
 clear Qg Qh Qi Yg yk
 clear Qj Qk Yh yl
 clear hB8
 rintro w9 ⟨hB9, ym, yn, yo, yp, yq, yr, hm2', hee'⟩
 obtain ⟨Ql, Qm, Yi, Yj⟩ := bk2 ym
 replace ym := Lib.hid ym
 obtain ⟨Qn, Qo, Qp, Yk, Yl⟩ := bk3 yn
 replace yn := Lib.hid yn
 obtain ⟨Qq, Qr, Qs, Ym, Yn⟩ := bk3 yo
 replace yo := Lib.hid yo
 obtain ⟨Qt, Qu, Qv, Yo, Yp⟩ := bk3 yp
 replace yp := Lib.hid yp
 obtain ⟨Qw, Qx, Yq, Yr⟩ := bk2 yq
 replace yq := Lib.hid yq
 obtain ⟨wl, wm, Ys, Yt⟩ := bk2 yr
 replace yr := Lib.hid yr
 have hm2 := hm2'
 clear hm2'
 have hee := hee'
 clear hee'
 refine wp_open (n := 8) (by kernel_rfl) (by kernel_rfl) (by kernel_rfl) (by kernel_rfl) ?_
 simp only [List.take_succ_cons, List.take_zero]
 apply wpS_quiet
 ·intro γ W hW hp
  refine ⟨rfl, ?_⟩
  go_big_quiet_op
  first | exact rfl
 ·exact locS_const _
 try simp only [Act.put, List.setIfInBounds_toArray, List.set_cons_succ, List.set_cons_zero, Nat.reduceAdd]
 apply wpS_open (openW w.heap.size n)
 ·intro γ W hW hp
  refine ⟨rfl, ?_⟩
  go_simp
  refine plainNew rfl ?_
  exact open_W (TN _) (by (have := hW.size; (try simp only [sA, sB, sC, sD] at this); omega))
 try simp only [Act.put, List.setIfInBounds_toArray, List.set_cons_succ, List.set_cons_zero, Nat.reduceAdd]
 apply wpS_quiet
 ·intro γ W hW hp
  refine ⟨rfl, ?_⟩
  go_big_quiet_op
  first | exact rfl
 ·exact locS_const _
 try simp only [Act.put, List.setIfInBounds_toArray, List.set_cons_succ, List.set_cons_zero, Nat.reduceAdd]
 apply wpS_open (openW w.heap.size n)
 ·intro γ W hW hp
  refine ⟨rfl, ?_⟩
  go_simp
  refine plainNew rfl ?_
  exact open_W (TN _) (by (have := hW.size; (try simp only [sA, sB, sC, sD] at this); omega))
 try simp only [Act.put, List.setIfInBounds_toArray, List.set_cons_succ, List.set_cons_zero, Nat.reduceAdd]
 apply wpS_open (openW w.heap.size nn)
 ·intro γ W hW hp
  have Xc := hp _ (mL _ (mR _)) (by kernel_rfl)
  dsimp only at Xc
  have Xd := hp _ (mR _) (by kernel_rfl)
  dsimp only at Xd
  refine ⟨rfl, ?_⟩
  go_simp
  refine plainNew rfl ?_
  obtain ⟨b3, a3, n3, c3, e3, h3, _⟩ := Xc
  obtain ⟨b4, a4, n4, c4, e4, h4, _⟩ := Xd
  rw [e3, e4]
  exact open_W (mulWholes_eq h3 h4 HNN.out lnn lnn) (by (have := hW.size; (try simp only [sA, sB, sC, sD] at this); omega))
 try simp only [Act.put, List.setIfInBounds_toArray, List.set_cons_succ, List.set_cons_zero, Nat.reduceAdd]
 apply wpS_quiet
 ·intro γ W hW hp
  have hs := hW.size
  (try simp only [sA, sB, sC, sD] at hs)
  have qh := fun x => (xcA hW (w8.heap.size) 0 (by first | omega | go_size) x).trans wl
  have qi := fun x => (xcA hW (w8.heap.size) 1 (by first | omega | go_size) x).trans wm
  clear hW hp
  refine ⟨rfl, ?_⟩
  go_big_quiet_op
  first | exact rfl
 ·exact locS_const _
 try simp only [Act.put, List.setIfInBounds_toArray, List.set_cons_succ, List.set_cons_zero, Nat.reduceAdd]
 apply wpS_open (openW w.heap.size t1)
 ·intro γ W hW hp
  have vh := hp _ (mR _) (by kernel_rfl)
  dsimp only at vh
  refine ⟨rfl, ?_⟩
  go_simp
  refine plainNew rfl ?_
  obtain ⟨b3, a3, n3, c3, e3, h3, _⟩ := vh
  rw [e3]
  exact open_W (mulWholes_eq h3 (hee.below hW) HT1.out l1 l2) (by (have := hW.size; (try simp only [sA, sB, sC, sD] at this); omega))
 try simp only [Act.put, List.setIfInBounds_toArray, List.set_cons_succ, List.set_cons_zero, Nat.reduceAdd]
 apply wpS_open (newBox _ _ _)
 ·intro γ W hW hp
  refine ⟨rfl, ?_⟩
  go_simp
  exact ⟨⟨⟨_, rfl, hW.size, heap_alloc_new _ _⟩, fun _ => ⟨_, rfl, Nat.le_refl _, by simp⟩⟩, (Below.refl _ _).alloc (Nat.le_refl _) _⟩
 try simp only [Act.put, List.setIfInBounds_toArray, List.set_cons_succ, List.set_cons_zero, Nat.reduceAdd]
 apply wpS_end
 intro γ w10 hb10 hG10 hA10
 have uc := hG10 _ (mL _ (mL _ (mL _ (mL _ (mR _)))))
 dsimp only at uc
 have ud := hG10 _ (mL _ (mL _ (mL _ (mR _))))
 dsimp only at ud
 have ue := hG10 _ (mL _ (mL _ (mR _)))
 dsimp only at ue
 have uf := hG10 _ (mL _ (mR _))
 dsimp only at uf
 obtain ⟨qc, wz, qq, yt⟩ := hG10 _ (mR _)
 dsimp only at wz qq yt
 have Xe := fun o => blk_cell yt o
 have Xf := fun o => blk_frozen yt o
 have Yy := blk_lt' yt
 have uw : w.heap.size ≠ qc := Nat.ne_of_lt (Nat.lt_of_lt_of_le Yj qq)
 have uy : w.heap.size + 1 ≠ qc := Nat.ne_of_lt (Nat.lt_of_lt_of_le Yl qq)
 have gc : w.heap.size + 1 + 1 ≠ qc := Nat.ne_of_lt (Nat.lt_of_lt_of_le Yn qq)
 have ge : w.heap.size + 1 + 1 + 1 ≠ qc := Nat.ne_of_lt (Nat.lt_of_lt_of_le Yp qq)
 have gh : w6.heap.size ≠ qc := Nat.ne_of_lt (Nat.lt_of_lt_of_le Yr qq)
 have gk : w8.heap.size ≠ qc := Nat.ne_of_lt (Nat.lt_of_lt_of_le Yt qq)
 have Yz : w.heap.size ≤ qc := Nat.le_trans hB9.size qq
 clear hG10 hA10
 try simp only [wz]
 clear wz
 simp only [List.drop_succ_cons, List.drop_zero]
 have hz10 := hb10.size
 (try simp only [sA, sB, sC, sD] at hz10)
 obtain ⟨b10, a10, n10, c10, e10, ht1, f10⟩ := uf
 simp only [e10]
 clear e10 uc ud ue f10
 have xe := (hb10.block (w.heap.size) (blk_lt' ym.out)).trans ym.out
 clear Ql Qm Yi ym
 obtain ⟨gm, gn, Xg, Va⟩ := bk2 xe
 replace xe := Lib.hid xe
 have xf := (hb10.block (w.heap.size + 1) (blk_lt' yn.out)).trans yn.out
 clear Qn Qo Qp Yk yn
 obtain ⟨gr, gt, gu, Xh, Vb⟩ := bk3 xf
 replace xf := Lib.hid xf
 have xg := (hb10.block (w.heap.size + 1 + 1) (blk_lt' yo.out)).trans yo.out
 clear Qq Qr Qs Ym yo
 obtain ⟨gy, ka, kb, Xi, Vc⟩ := bk3 xg
 replace xg := Lib.hid xg
 have xh := (hb10.block (w.heap.size + 1 + 1 + 1) (blk_lt' yp.out)).trans yp.out
 clear Qt Qu Qv Yo yp
 obtain ⟨kc, kd, ke, Xj, Vd⟩ := bk3 xh
 replace xh := Lib.hid xh
 have xi := (hb10.block (w6.heap.size) (blk_lt' yq.out)).trans yq.out
 clear Qw Qx Yq yq
 obtain ⟨kf, kh, Xk, Ve⟩ := bk2 xi
 replace xi := Lib.hid xi
 have xj := (hb10.block (w8.heap.size) (blk_lt' yr.out)).trans yr.out
 clear wl wm Ys yr
 obtain ⟨ki, kj, Xl, Vf⟩ := bk2 xj
 replace xj := Lib.hid xj
 replace hm2 := hm2.below hb10
 replace hee := hee.below hb10
 have hB10 : Below w.heap.size w w10 := below_via hb10 (by assumption) (by go_size)
 go_upto_region 13 with fail
 replace xe := xe.out
 replace xf := xf.out
 replace xg := xg.out
 replace xh := xh.out
 replace xi := xi.out
 replace xj := xj.out
 refine chk (fun W => Below w.heap.size w W ∧ W.heap[w.heap.size]? = some (.cells #[.int .i64 A, .int .i64 B] 32 (0, 0)) ∧ W.heap[w.heap.size + 1]? = some (.cells #[.int .i64 x1, .int .i64 y1, .int .i64 e1] 34 (0, 0)) ∧ W.heap[w.heap.size + 1 + 1]? = some (.cells #[.int .i64 x2, .int .i64 y2, .int .i64 e2] 34 (0, 0)) ∧ W.heap[w.heap.size + 1 + 1 + 1]? = some (.cells #[.int .i64 0, .int .i64 0, .int .i64 0] 34 (0, 0)) ∧ W.heap[w6.heap.size]? = some (.cells #[.bool b6, .slice a6 n6 c6] 80 (0, 0)) ∧ W.heap[w8.heap.size]? = some (.cells #[.bool b8, .slice a8 n8 c8] 80 (0, 0)) ∧ W.heap[qc]? = some (.cells #[.bool b10, .slice a10 n10 c10] 80 (0, 0)) ∧ Wx W b6 a6 n6 c6 mm ∧ Wx W b8 a8 n8 c8 ee ∧ Wx W b10 a10 n10 c10 t1) (by refine ⟨?_, ?_, ?_, ?_, ?_, ?_, ?_, ?_, ?_, ?_, ?_⟩ <;> (exact ck)) ?_
 try clear hm2
 try clear hee
 try clear ht1
 clear gm gn Xg xe
 clear gr gt gu Xh xf
 clear gy ka kb Xi xg
 clear kc kd ke Xj xh
 clear kf kh Xk xi
 clear ki kj Xl xj
 clear hB10
 try clear Xe
 try clear Xf
 try clear yt
 rintro w11 ⟨hB11, xk, xl, xm, xn, xo, xp, xq, hm2', hee', ht1'⟩
 obtain ⟨kl, km, Xm, Vg⟩ := bk2 xk
 replace xk := Lib.hid xk
 obtain ⟨jj, jk, jl, Xn, Vh⟩ := bk3 xl
 replace xl := Lib.hid xl
 obtain ⟨jm, jn, jo, Xo, Vi⟩ := bk3 xm
 replace xm := Lib.hid xm
 obtain ⟨kn, ko, kp, Xp, Vj⟩ := bk3 xn
 replace xn := Lib.hid xn
 obtain ⟨vi, vj, Xq, Vk⟩ := bk2 xo
 replace xo := Lib.hid xo
 obtain ⟨kr, ks, Xr, Vl⟩ := bk2 xp
 replace xp := Lib.hid xp
 obtain ⟨vk, vm, Xs, Vm⟩ := bk2 xq
 replace xq := Lib.hid xq
 have hm2 := hm2'
 clear hm2'
 have hee := hee'
 clear hee'
 have ht1 := ht1'
 clear ht1'
 refine wp_open (n := 23) (by kernel_rfl) (by kernel_rfl) (by kernel_rfl) (by kernel_rfl) ?_
 simp only [List.take_succ_cons, List.take_zero]
 apply wpS_quiet
 ·intro γ W hW hp
  have hs := hW.size
  (try simp only [sA, sB, sC, sD] at hs)
  have qh := fun x => (xcA hW (qc) 0 (by first | omega | go_size) x).trans vk
  have qi := fun x => (xcA hW (qc) 1 (by first | omega | go_size) x).trans vm
  clear hW hp
  refine ⟨rfl, ?_⟩
  go_big_quiet_op
  first | exact rfl
 ·exact locS_const _
 try simp only [Act.put, List.setIfInBounds_toArray, List.set_cons_succ, List.set_cons_zero, Nat.reduceAdd]
 apply wpS_quiet
 ·intro γ W hW hp
  have hs := hW.size
  (try simp only [sA, sB, sC, sD] at hs)
  have qh := fun x => (xcA hW (w6.heap.size) 0 (by first | omega | go_size) x).trans vi
  have qi := fun x => (xcA hW (w6.heap.size) 1 (by first | omega | go_size) x).trans vj
  clear hW hp
  refine ⟨rfl, ?_⟩
  go_big_quiet_op
  first | exact rfl
 ·exact locS_const _
 try simp only [Act.put, List.setIfInBounds_toArray, List.set_cons_succ, List.set_cons_zero, Nat.reduceAdd]
 apply wpS_quiet
 ·intro γ W hW hp
  refine ⟨rfl, ?_⟩
  go_big_quiet_op
  first | exact rfl
 ·exact locS_const _
 try simp only [Act.put, List.setIfInBounds_toArray, List.set_cons_succ, List.set_cons_zero, Nat.reduceAdd]
 apply wpS_quiet
 ·intro γ W hW hp
  have hs := hW.size
  (try simp only [sA, sB, sC, sD] at hs)
  have qh := fun x => (xcA hW (w.heap.size + 1) 0 (by first | omega | go_size) x).trans jj
  have qi := fun x => (xcA hW (w.heap.size + 1) 1 (by first | omega | go_size) x).trans jk
  have ji := fun x => (xcA hW (w.heap.size + 1) 2 (by first | omega | go_size) x).trans jl
  clear hW hp
  refine ⟨rfl, ?_⟩
  go_big_quiet_op
  first | exact rfl
 ·exact locS_const _
 try simp only [Act.put, List.setIfInBounds_toArray, List.set_cons_succ, List.set_cons_zero, Nat.reduceAdd]
 apply wpS_quiet
 ·intro γ W hW hp
  refine ⟨rfl, ?_⟩
  go_big_quiet_op
  first | exact rfl
 ·exact locS_const _
 try simp only [Act.put, List.setIfInBounds_toArray, List.set_cons_succ, List.set_cons_zero, Nat.reduceAdd]
 apply wpS_quiet
 ·intro γ W hW hp
  have hs := hW.size
  (try simp only [sA, sB, sC, sD] at hs)
  have qh := fun x => (xcA hW (w.heap.size + 1 + 1) 0 (by first | omega | go_size) x).trans jm
  have qi := fun x => (xcA hW (w.heap.size + 1 + 1) 1 (by first | omega | go_size) x).trans jn
  have ji := fun x => (xcA hW (w.heap.size + 1 + 1) 2 (by first | omega | go_size) x).trans jo
  clear hW hp
  refine ⟨rfl, ?_⟩
  go_big_quiet_op
  first | exact rfl
 ·exact locS_const _
 try simp only [Act.put, List.setIfInBounds_toArray, List.set_cons_succ, List.set_cons_zero, Nat.reduceAdd]
 apply wpS_quiet
 ·intro γ W hW hp
  refine ⟨rfl, ?_⟩
  go_big_quiet_op
  first | exact rfl
 ·exact locS_const _
 try simp only [Act.put, List.setIfInBounds_toArray, List.set_cons_succ, List.set_cons_zero, Nat.reduceAdd]
 apply wpS_quiet
 ·intro γ W hW hp
  refine ⟨rfl, ?_⟩
  go_big_quiet_op
  first | exact rfl
 ·exact locS_const _
 try simp only [Act.put, List.setIfInBounds_toArray, List.set_cons_succ, List.set_cons_zero, Nat.reduceAdd]
 apply wpS_quiet
 ·intro γ W hW hp
  have hs := hW.size
  (try simp only [sA, sB, sC, sD] at hs)
  have qh := fun x => (xcA hW (w.heap.size + 1 + 1) 0 (by first | omega | go_size) x).trans jm
  have qi := fun x => (xcA hW (w.heap.size + 1 + 1) 1 (by first | omega | go_size) x).trans jn
  have ji := fun x => (xcA hW (w.heap.size + 1 + 1) 2 (by first | omega | go_size) x).trans jo
  clear hW hp
  refine ⟨rfl, ?_⟩
  go_big_quiet_op
  first | exact rfl
 ·exact locS_const _
 try simp only [Act.put, List.setIfInBounds_toArray, List.set_cons_succ, List.set_cons_zero, Nat.reduceAdd]
 apply wpS_quiet
 ·intro γ W hW hp
  refine ⟨rfl, ?_⟩
  go_big_quiet_op
  first | exact rfl
 ·exact locS_const _
 try simp only [Act.put, List.setIfInBounds_toArray, List.set_cons_succ, List.set_cons_zero, Nat.reduceAdd]
 apply wpS_quiet
 ·intro γ W hW hp
  refine ⟨rfl, ?_⟩
  go_big_quiet_op
  first | exact rfl
 ·exact locS_const _
 try simp only [Act.put, List.setIfInBounds_toArray, List.set_cons_succ, List.set_cons_zero, Nat.reduceAdd]
 apply wpS_quiet
 ·intro γ W hW hp
  have hs := hW.size
  (try simp only [sA, sB, sC, sD] at hs)
  have qh := fun x => (xcA hW (w.heap.size + 1 + 1) 0 (by first | omega | go_size) x).trans jm
  have qi := fun x => (xcA hW (w.heap.size + 1 + 1) 1 (by first | omega | go_size) x).trans jn
  have ji := fun x => (xcA hW (w.heap.size + 1 + 1) 2 (by first | omega | go_size) x).trans jo
  clear hW hp
  refine ⟨rfl, ?_⟩
  go_big_quiet_op
  first | exact rfl
 ·exact locS_const _
 try simp only [Act.put, List.setIfInBounds_toArray, List.set_cons_succ, List.set_cons_zero, Nat.reduceAdd]
 apply wpS_quiet
 ·intro γ W hW hp
  refine ⟨rfl, ?_⟩
  go_big_quiet_op
  first | exact rfl
 ·exact locS_const _
 try simp only [Act.put, List.setIfInBounds_toArray, List.set_cons_succ, List.set_cons_zero, Nat.reduceAdd]
 apply wpS_quiet
 ·intro γ W hW hp
  have hs := hW.size
  (try simp only [sA, sB, sC, sD] at hs)
  have qh := fun x => (xcA hW (w.heap.size + 1) 0 (by first | omega | go_size) x).trans jj
  have qi := fun x => (xcA hW (w.heap.size + 1) 1 (by first | omega | go_size) x).trans jk
  have ji := fun x => (xcA hW (w.heap.size + 1) 2 (by first | omega | go_size) x).trans jl
  clear hW hp
  refine ⟨rfl, ?_⟩
  go_big_quiet_op
  first | exact rfl
 ·exact locS_const _
 try simp only [Act.put, List.setIfInBounds_toArray, List.set_cons_succ, List.set_cons_zero, Nat.reduceAdd]
 apply wpS_quiet
 ·intro γ W hW hp
  refine ⟨rfl, ?_⟩
  go_big_quiet_op
  first | exact rfl
 ·exact locS_const _
 try simp only [Act.put, List.setIfInBounds_toArray, List.set_cons_succ, List.set_cons_zero, Nat.reduceAdd]
 apply wpS_quiet
 ·intro γ W hW hp
  refine ⟨rfl, ?_⟩
  go_big_quiet_op
  first | exact rfl
 ·exact locS_const _
 try simp only [Act.put, List.setIfInBounds_toArray, List.set_cons_succ, List.set_cons_zero, Nat.reduceAdd]
 apply wpS_quiet
 ·intro γ W hW hp
  have hs := hW.size
  (try simp only [sA, sB, sC, sD] at hs)
  have qh := fun x => (xcA hW (w.heap.size + 1) 0 (by first | omega | go_size) x).trans jj
  have qi := fun x => (xcA hW (w.heap.size + 1) 1 (by first | omega | go_size) x).trans jk
  have ji := fun x => (xcA hW (w.heap.size + 1) 2 (by first | omega | go_size) x).trans jl
  clear hW hp
  refine ⟨rfl, ?_⟩
  go_big_quiet_op
  first | exact rfl
 ·exact locS_const _
 try simp only [Act.put, List.setIfInBounds_toArray, List.set_cons_succ, List.set_cons_zero, Nat.reduceAdd]
 apply wpS_quiet
 ·intro γ W hW hp
  refine ⟨rfl, ?_⟩
  go_big_quiet_op
  first | exact rfl
 ·exact locS_const _
 try simp only [Act.put, List.setIfInBounds_toArray, List.set_cons_succ, List.set_cons_zero, Nat.reduceAdd]
 apply wpS_quiet
 ·intro γ W hW hp
  refine ⟨rfl, ?_⟩
  go_big_quiet_op
  first | exact rfl
 ·exact locS_const _
 try simp only [Act.put, List.setIfInBounds_toArray, List.set_cons_succ, List.set_cons_zero, Nat.reduceAdd]
 apply wpS_open (openW w.heap.size sm)
 ·intro γ W hW hp
  refine ⟨rfl, ?_⟩
  go_simp
  refine plainNew rfl ?_
  exact open_W (TU _) (by (have := hW.size; (try simp only [sA, sB, sC, sD] at this); omega))
 try simp only [Act.put, List.setIfInBounds_toArray, List.set_cons_succ, List.set_cons_zero, Nat.reduceAdd]
 apply wpS_open (openW w.heap.size t2)
 ·intro γ W hW hp
  have cy := hp _ (mR _) (by kernel_rfl)
  dsimp only at cy
  refine ⟨rfl, ?_⟩
  go_simp
  refine plainNew rfl ?_
  obtain ⟨b3, a3, n3, c3, e3, h3, _⟩ := cy
  rw [e3]
  exact open_W (mulWholes_eq (hm2.below hW) h3 HT2.out l3 l4) (by (have := hW.size; (try simp only [sA, sB, sC, sD] at this); omega))
 try simp only [Act.put, List.setIfInBounds_toArray, List.set_cons_succ, List.set_cons_zero, Nat.reduceAdd]
 apply wpS_open (openW w.heap.size (-t2))
 ·intro γ W hW hp
  have cz := hp _ (mR _) (by kernel_rfl)
  dsimp only at cz
  refine ⟨rfl, ?_⟩
  go_simp
  refine plainNew rfl ?_
  obtain ⟨b3, a3, n3, c3, e3, h3, _⟩ := cz
  rw [e3]
  exact open_W (negated_any _ _ _ _ _ _ h3 (by rw [h3.ln]; omega)) (by (have := hW.size; (try simp only [sA, sB, sC, sD] at this); omega))
 try simp only [Act.put, List.setIfInBounds_toArray, List.set_cons_succ, List.set_cons_zero, Nat.reduceAdd]
 apply wpS_open (openW w.heap.size t)
 ·intro γ W hW hp
  have nc := hp _ (mR _) (by kernel_rfl)
  dsimp only at nc
  refine ⟨rfl, ?_⟩
  go_simp
  refine plainNew rfl ?_
  obtain ⟨b3, a3, n3, c3, e3, h3, _⟩ := nc
  rw [e3]
  exact open_W (addWholes_eq (ht1.below hW) h3 HT.out l5 l6) (by (have := hW.size; (try simp only [sA, sB, sC, sD] at this); omega))
 try simp only [Act.put, List.setIfInBounds_toArray, List.set_cons_succ, List.set_cons_zero, Nat.reduceAdd]
 apply wpS_end
 intro γ w12 hb12 hG12 hA12
 have wn := hG12 _ (mL _ (mL _ (mL _ (mR _))))
 dsimp only at wn
 have wq := hG12 _ (mL _ (mL _ (mR _)))
 dsimp only at wq
 have ws := hG12 _ (mL _ (mR _))
 dsimp only at ws
 have wt := hG12 _ (mR _)
 dsimp only at wt
 clear hG12 hA12
 simp only [List.drop_succ_cons, List.drop_zero]
 have hz12 := hb12.size
 (try simp only [sA, sB, sC, sD] at hz12)
 obtain ⟨b12, a12, n12, c12, e12, htr, f12⟩ := wt
 simp only [e12]
 clear e12 wn wq ws f12
 have xr := (hb12.block (w.heap.size) (blk_lt' xk.out)).trans xk.out
 clear kl km Xm xk
 obtain ⟨kt, ku, Xt, Vn⟩ := bk2 xr
 replace xr := Lib.hid xr
 have xt := (hb12.block (w.heap.size + 1) (blk_lt' xl.out)).trans xl.out
 clear jj jk jl Xn xl
 obtain ⟨kw, kx, ky, Xu, Vo⟩ := bk3 xt
 replace xt := Lib.hid xt
 have xu := (hb12.block (w.heap.size + 1 + 1) (blk_lt' xm.out)).trans xm.out
 clear jm jn jo Xo xm
 obtain ⟨kz, pc, pd, Xv, Vp⟩ := bk3 xu
 replace xu := Lib.hid xu
 have xv := (hb12.block (w.heap.size + 1 + 1 + 1) (blk_lt' xn.out)).trans xn.out
 clear kn ko kp Xp xn
 obtain ⟨pe, pf, pg, Xw, Vq⟩ := bk3 xv
 replace xv := Lib.hid xv
 have xw := (hb12.block (w6.heap.size) (blk_lt' xo.out)).trans xo.out
 clear vi vj Xq xo
 obtain ⟨ph, pi, Xx, Vr⟩ := bk2 xw
 replace xw := Lib.hid xw
 have xy := (hb12.block (w8.heap.size) (blk_lt' xp.out)).trans xp.out
 clear kr ks Xr xp
 obtain ⟨pj, pk, Xy, Vs⟩ := bk2 xy
 replace xy := Lib.hid xy
 have za := (hb12.block (qc) (blk_lt' xq.out)).trans xq.out
 clear vk vm Xs xq
 obtain ⟨pm, pn, Xz, Vt⟩ := bk2 za
 replace za := Lib.hid za
 replace hm2 := hm2.below hb12
 replace hee := hee.below hb12
 replace ht1 := ht1.below hb12
 have hB12 : Below w.heap.size w w12 := below_via hb12 (by assumption) (by go_size)
 go_upto_region 14 with fail
 replace xr := xr.out
 replace xt := xt.out
 replace xu := xu.out
 replace xv := xv.out
 replace xw := xw.out
 replace xy := xy.out
 replace za := za.out
 refine chk (fun W => Below w.heap.size w W ∧ W.heap[w.heap.size]? = some (.cells #[.int .i64 A, .int .i64 B] 32 (0, 0)) ∧ W.heap[w.heap.size + 1]? = some (.cells #[.int .i64 x1, .int .i64 y1, .int .i64 e1] 34 (0, 0)) ∧ W.heap[w.heap.size + 1 + 1]? = some (.cells #[.int .i64 x2, .int .i64 y2, .int .i64 e2] 34 (0, 0)) ∧ W.heap[w.heap.size + 1 + 1 + 1]? = some (.cells #[.int .i64 0, .int .i64 0, .int .i64 0] 34 (0, 0)) ∧ W.heap[w6.heap.size]? = some (.cells #[.bool b6, .slice a6 n6 c6] 80 (0, 0)) ∧ W.heap[w8.heap.size]? = some (.cells #[.bool b8, .slice a8 n8 c8] 80 (0, 0)) ∧ W.heap[qc]? = some (.cells #[.bool b12, .slice a12 n12 c12] 80 (0, 0)) ∧ Wx W b6 a6 n6 c6 mm ∧ Wx W b8 a8 n8 c8 ee ∧ Wx W b12 a12 n12 c12 t) (by refine ⟨?_, ?_, ?_, ?_, ?_, ?_, ?_, ?_, ?_, ?_, ?_⟩ <;> (exact ck)) ?_
 try clear hm2
 try clear hee
 try clear htr
 clear kt ku Xt xr
 clear kw kx ky Xu xt
 clear kz pc pd Xv xu
 clear pe pf pg Xw xv
 clear ph pi Xx xw
 clear pj pk Xy xy
 clear pm pn Xz za
 clear hB12
 rintro w13 ⟨hB13, zb, zc, zd, ze, zf, zg, zh, hm2', hee', htr'⟩
 obtain ⟨po, pp, Za, Vu⟩ := bk2 zb
 replace zb := Lib.hid zb
 obtain ⟨pq, pr, pt, Zb, Vv⟩ := bk3 zc
 replace zc := Lib.hid zc
 obtain ⟨pu, pv, pw, Zc, Vw⟩ := bk3 zd
 replace zd := Lib.hid zd
 obtain ⟨px, dc, de, Zd, Vx⟩ := bk3 ze
 replace ze := Lib.hid ze
 obtain ⟨df, dg, Ze, Vy⟩ := bk2 zf
 replace zf := Lib.hid zf
 obtain ⟨dh, di, Zf, Vz⟩ := bk2 zg
 replace zg := Lib.hid zg
 obtain ⟨dj, dk, Zg, Wa⟩ := bk2 zh
 replace zh := Lib.hid zh
 have hm2 := hm2'
 clear hm2'
 have hee := hee'
 clear hee'
 have htr := htr'
 clear htr'
 clear TN TU lm lnn lm5 ln5 wk1 wk2 wk3 wk4 wk5 wk6 wk7 q1 q2 q3 q4 q5 q6 l1 l4 l5 l6 HM2 HNN HT1 HT2 HT HE0 HS0
 go_upto_region 15 with (first | (have _t := tok16; go_at_call 52; refine (mulWholes_eq (hm2.below bel) (hee.below bel) HB.out l3 l2).mono ?_; rintro e w16 ⟨b16, a16, n16, c16, rfl, hbor, f16, hb16⟩; clear tok16 _t; have hz16 := hb16.size; (try simp only [sA, sB, sC, sD] at hz16)))
 have zi := (hb16.block (w.heap.size) (blk_lt' zb.out)).trans zb.out
 clear po pp Za zb
 obtain ⟨dl, dm, Zh, Wb⟩ := bk2 zi
 replace zi := Lib.hid zi
 have zj := (hb16.block (w.heap.size + 1) (blk_lt' zc.out)).trans zc.out
 clear pq pr pt Zb zc
 obtain ⟨dn, dq, dr, Zi, Wc⟩ := bk3 zj
 replace zj := Lib.hid zj
 have zk := (hb16.block (w.heap.size + 1 + 1) (blk_lt' zd.out)).trans zd.out
 clear pu pv pw Zc zd
 obtain ⟨dt, du, dv, Zj, Wd⟩ := bk3 zk
 replace zk := Lib.hid zk
 have zm := (hb16.block (w.heap.size + 1 + 1 + 1) (blk_lt' ze.out)).trans ze.out
 clear px dc de Zd ze
 obtain ⟨dw, dx, fa, Zk, We⟩ := bk3 zm
 replace zm := Lib.hid zm
 have zn := (hb16.block (w6.heap.size) (blk_lt' zf.out)).trans zf.out
 clear df dg Ze zf
 obtain ⟨fb, fc, Zl, Wf⟩ := bk2 zn
 replace zn := Lib.hid zn
 have zo := (hb16.block (w8.heap.size) (blk_lt' zg.out)).trans zg.out
 clear dh di Zf zg
 obtain ⟨fd, fe, Zm, Wg⟩ := bk2 zo
 replace zo := Lib.hid zo
 have zp := (hb16.block (qc) (blk_lt' zh.out)).trans zh.out
 clear dj dk Zg zh
 obtain ⟨ff, fh, Zn, Wh⟩ := bk2 zp
 replace zp := Lib.hid zp
 replace hm2 := hm2.below hb16
 replace hee := hee.below hb16
 replace htr := htr.below hb16
 have hB16 : Below w.heap.size w w16 := below_via hb16 (by assumption) (by go_size)
 clear f16
 replace zi := zi.out
 replace zj := zj.out
 replace zk := zk.out
 replace zm := zm.out
 replace zn := zn.out
 replace zo := zo.out
 replace zp := zp.out
 refine chk (fun W => Below w.heap.size w W ∧ W.heap[w.heap.size]? = some (.cells #[.int .i64 A, .int .i64 B] 32 (0, 0)) ∧ W.heap[w.heap.size + 1]? = some (.cells #[.int .i64 x1, .int .i64 y1, .int .i64 e1] 34 (0, 0)) ∧ W.heap[w.heap.size + 1 + 1 + 1]? = some (.cells #[.int .i64 0, .int .i64 0, .int .i64 0] 34 (0, 0)) ∧ W.heap[qc]? = some (.cells #[.bool b12, .slice a12 n12 c12] 80 (0, 0)) ∧ W.heap[w16.heap.size]? = some (.cells #[.bool b16, .slice a16 n16 c16] 80 (0, 0)) ∧ Wx W b12 a12 n12 c12 t ∧ Wx W b16 a16 n16 c16 bo) (by refine ⟨?_, ?_, ?_, ?_, ?_, ?_, ?_, ?_⟩ <;> (exact ck)) ?_
 try clear htr
 try clear hbor
 clear dl dm Zh zi
 clear dn dq dr Zi zj
 clear dt du dv Zj zk
 clear dw dx fa Zk zm
 clear fb fc Zl zn
 clear fd fe Zm zo
 clear ff fh Zn zp
 clear hB16
 rintro w17 ⟨hB17, zq, zr, zt, zu, zv, htr', hbor'⟩
 obtain ⟨fi, fj, Zo, Wi⟩ := bk2 zq
 replace zq := Lib.hid zq
 obtain ⟨fk, fl, fm, Zp, Wj⟩ := bk3 zr
 replace zr := Lib.hid zr
 obtain ⟨fn, fo, fp, Zq, Wk⟩ := bk3 zt
 replace zt := Lib.hid zt
 obtain ⟨fq, ft, Zr, Wl⟩ := bk2 zu
 replace zu := Lib.hid zu
 obtain ⟨fu, fv, Zs, Wm⟩ := bk2 zv
 replace zv := Lib.hid zv
 have htr := htr'
 clear htr'
 have hbor := hbor'
 clear hbor'
 have l7b : ln t ≤ 8000 := by omega
 have l7 : ln t ≤ 10000 := by omega
 have l8 : ln bo ≤ 9000 := by omega
 clear q7 q8 HB l2 l3
 go_wp2_with fail
 go_loopw [15] (fun ev wr => AdRel n m x1 e1 x2 e2 w17 ev wr) (fun ev _ => (21 - intOf ev).toNat)
 case atStart => exact ⟨0, rfl, by omega, fun e x h1 h2 => by omega, Below.refl _ _⟩
 case round =>
  obtain ⟨k, rfl, hk, hall, hb18⟩ := hrel
  obtain ⟨w18, rfl⟩ : ∃ v, v = wr := ⟨_, rfl⟩
  have HALL := Lib.hid hall
  clear hall
  have zw := (hb18.block (w.heap.size) (blk_lt' zq.out)).trans zq.out
  clear fi fj Zo zq
  obtain ⟨fw, ba, Zt, Wn⟩ := bk2 zw
  replace zw := Lib.hid zw
  have zx := (hb18.block (w.heap.size + 1) (blk_lt' zr.out)).trans zr.out
  clear fk fl fm Zp zr
  obtain ⟨bc, bd, bf, Zu, Wo⟩ := bk3 zx
  replace zx := Lib.hid zx
  have qn := (hb18.block (w.heap.size + 1 + 1 + 1) (blk_lt' zt.out)).trans zt.out
  clear fn fo fp Zq zt
  obtain ⟨vn, vo, vp, Zv, Wp⟩ := bk3 qn
  replace qn := Lib.hid qn
  have zy := (hb18.block (qc) (blk_lt' zu.out)).trans zu.out
  clear fq ft Zr zu
  obtain ⟨vq, vr, Zw, Wq⟩ := bk2 zy
  replace zy := Lib.hid zy
  have ja := (hb18.block (w16.heap.size) (blk_lt' zv.out)).trans zv.out
  clear fu fv Zs zv
  obtain ⟨vt, vu, Zx, Wr⟩ := bk2 ja
  replace ja := Lib.hid ja
  replace htr := htr.below hb18
  replace hbor := hbor.below hb18
  have hB18 : Below w.heap.size w w18 := below_via hb18 (by assumption) (by go_size)
  have hb17 := hb18
  by_cases hlt : k < 20
  ·obtain ⟨e, he0⟩ : ∃ e : Int, (k : Int) + 1 = e := ⟨_, rfl⟩
   rw [he0]
   have HE := Lib.hid he0
   have he : 1 ≤ e ∧ e ≤ 20 := by omega
   clear he0
   have ve := mul_bd (a := e) (b := e) (A := 20) (B := 20) (by omega) (by omega)
   have l9 : ln (t * (e * e)) ≤ 9000 := by
    have := ln_mul t (e * e)
    have := ln_small (a := e * e) (by omega) (by omega)
    omega
   go_upto_region 18 with fail
   refine wp_open (n := 11) (by kernel_rfl) (by kernel_rfl) (by kernel_rfl) (by kernel_rfl) ?_
   simp only [List.take_succ_cons, List.take_zero]
   apply wpS_quiet
   ·intro γ W hW hp
    have hs := hW.size
    (try simp only [sA, sB, sC, sD] at hs)
    have qh := fun x => (xcA hW (qc) 0 (by first | omega | go_size) x).trans vq
    have qi := fun x => (xcA hW (qc) 1 (by first | omega | go_size) x).trans vr
    clear hW hp
    refine ⟨rfl, ?_⟩
    go_big_quiet_op
    first | exact rfl
   ·exact locS_const _
   try simp only [Act.put, List.setIfInBounds_toArray, List.set_cons_succ, List.set_cons_zero, Nat.reduceAdd]
   apply wpS_quiet
   ·intro γ W hW hp
    refine ⟨rfl, ?_⟩
    go_big_quiet_op
    first | exact rfl
   ·exact locS_const _
   try simp only [Act.put, List.setIfInBounds_toArray, List.set_cons_succ, List.set_cons_zero, Nat.reduceAdd]
   apply wpS_quiet
   ·intro γ W hW hp
    refine ⟨rfl, ?_⟩
    go_big_quiet_op
    first | exact rfl
   ·exact locS_const _
   try simp only [Act.put, List.setIfInBounds_toArray, List.set_cons_succ, List.set_cons_zero, Nat.reduceAdd]
   apply wpS_quiet
   ·intro γ W hW hp
    refine ⟨rfl, ?_⟩
    go_big_quiet_op
    first | exact rfl
   ·exact locS_const _
   try simp only [Act.put, List.setIfInBounds_toArray, List.set_cons_succ, List.set_cons_zero, Nat.reduceAdd]
   apply wpS_open (openW w.heap.size (t * (e * e)))
   ·intro γ W hW hp
    refine ⟨rfl, ?_⟩
    go_simp
    refine plainNew rfl ?_
    exact open_W (timesInt_eq (htr.below hW) rfl l7 (by omega) (by omega)) (by (have := hW.size; (try simp only [sA, sB, sC, sD] at this); omega))
   try simp only [Act.put, List.setIfInBounds_toArray, List.set_cons_succ, List.set_cons_zero, Nat.reduceAdd]
   apply wpS_quiet
   ·intro γ W hW hp
    have hs := hW.size
    (try simp only [sA, sB, sC, sD] at hs)
    have qh := fun x => (xcA hW (w16.heap.size) 0 (by first | omega | go_size) x).trans vt
    have qi := fun x => (xcA hW (w16.heap.size) 1 (by first | omega | go_size) x).trans vu
    clear hW hp
    refine ⟨rfl, ?_⟩
    go_big_quiet_op
    first | exact rfl
   ·exact locS_const _
   try simp only [Act.put, List.setIfInBounds_toArray, List.set_cons_succ, List.set_cons_zero, Nat.reduceAdd]
   apply wpS_open (openSQ (t * (e * e)) bo)
   ·intro γ W hW hp
    have vh := hp _ (mR _) (by kernel_rfl)
    dsimp only at vh
    refine ⟨rfl, ?_⟩
    go_simp
    refine plainNew rfl ?_
    obtain ⟨b3, a3, n3, c3, e3, h3, _⟩ := vh
    rw [e3]
    exact open_SQ (smallQuotient_any h3 (hbor.below hW) l9 l8 HBP.out)
   try simp only [Act.put, List.setIfInBounds_toArray, List.set_cons_succ, List.set_cons_zero, Nat.reduceAdd]
   apply wpS_quiet
   ·intro γ W hW hp
    have jp := hp _ (mR _) (by kernel_rfl)
    dsimp only at jp
    refine ⟨rfl, ?_⟩
    go_big_quiet_op
    first | exact rfl
   ·intro γ k g hk
    have vv : updV γ k g 6 = γ 6 := updV_other γ g (fun e => by subst e; exact absurd hk (by rw [show reachB .any _ 100 7 6 = true from by kernel_rfl]; simp))
    first | rfl | simp only [vv]
   try simp only [Act.put, List.setIfInBounds_toArray, List.set_cons_succ, List.set_cons_zero, Nat.reduceAdd]
   apply wpS_quiet (v := fun γ => tupAt (γ 6) 0)
   ·intro γ W hW hp
    have jp := hp _ (mR _) (by kernel_rfl)
    dsimp only at jp
    obtain ⟨uA, bA, eA, -⟩ := jp
    refine ⟨rfl, ?_⟩
    simp only [eA]
    go_big_quiet_op
    first | exact rfl | simp [tupAt, eA]
   ·intro γ k g hk
    have vv : updV γ k g 6 = γ 6 := updV_other γ g (fun e => by subst e; exact absurd hk (by rw [show reachB .any _ 100 8 6 = true from by kernel_rfl]; simp))
    simp only [vv]
   try simp only [Act.put, List.setIfInBounds_toArray, List.set_cons_succ, List.set_cons_zero, Nat.reduceAdd]
   apply wpS_quiet (v := fun γ => tupAt (γ 6) 1)
   ·intro γ W hW hp
    have jp := hp _ (mR _) (by kernel_rfl)
    dsimp only at jp
    obtain ⟨uA, bA, eA, -⟩ := jp
    refine ⟨rfl, ?_⟩
    simp only [eA]
    go_big_quiet_op
    first | exact rfl | simp [tupAt, eA]
   ·intro γ k g hk
    have vv : updV γ k g 6 = γ 6 := updV_other γ g (fun e => by subst e; exact absurd hk (by rw [show reachB .any _ 100 9 6 = true from by kernel_rfl]; simp))
    simp only [vv]
   try simp only [Act.put, List.setIfInBounds_toArray, List.set_cons_succ, List.set_cons_zero, Nat.reduceAdd]
   apply wpS_quiet
   ·intro γ W hW hp
    have jp := hp _ (mR _) (by kernel_rfl)
    dsimp only at jp
    refine ⟨rfl, ?_⟩
    go_big_quiet_op
    first | exact rfl
   ·intro γ k g hk
    have vv : updV γ k g 6 = γ 6 := updV_other γ g (fun e => by subst e; exact absurd hk (by rw [show reachB .any _ 100 10 6 = true from by kernel_rfl]; simp))
    first | rfl | simp only [vv]
   try simp only [Act.put, List.setIfInBounds_toArray, List.set_cons_succ, List.set_cons_zero, Nat.reduceAdd]
   apply wpS_end
   intro γ w19 hb19 hG19 hA19
   have ug := hG19 _ (mL _ (mR _))
   dsimp only at ug
   have uh := hG19 _ (mR _)
   dsimp only at uh
   clear hG19 hA19
   simp only [List.drop_succ_cons, List.drop_zero]
   have hz19 := hb19.size
   (try simp only [sA, sB, sC, sD] at hz19)
   obtain ⟨lo, bq, e19, hbq, lo1, lo2, huq⟩ := uh
   simp only [e19, tupAt0, tupAt1]
   clear e19 ug l9
   have jb := (hb19.block (w.heap.size) (blk_lt' zw.out)).trans zw.out
   clear fw ba Zt zw
   obtain ⟨bg, bh, Zy, Ws⟩ := bk2 jb
   replace jb := Lib.hid jb
   have jc := (hb19.block (w.heap.size + 1) (blk_lt' zx.out)).trans zx.out
   clear bc bd bf Zu zx
   obtain ⟨bi, bj, bk, Zz, Wt⟩ := bk3 jc
   replace jc := Lib.hid jc
   have jd := (hb19.block (w.heap.size + 1 + 1 + 1) (blk_lt' qn.out)).trans qn.out
   clear vn vo vp Zv qn
   obtain ⟨bm, bn, br, Ja, Wu⟩ := bk3 jd
   replace jd := Lib.hid jd
   have je := (hb19.block (qc) (blk_lt' zy.out)).trans zy.out
   clear vq vr Zw zy
   obtain ⟨bu, bw, Jb, Wv⟩ := bk2 je
   replace je := Lib.hid je
   have jf := (hb19.block (w16.heap.size) (blk_lt' ja.out)).trans ja.out
   clear vt vu Zx ja
   obtain ⟨bx, cd, Jc, Ww⟩ := bk2 jf
   replace jf := Lib.hid jf
   replace htr := htr.below hb19
   replace hbor := hbor.below hb19
   have hB19 : Below w.heap.size w w19 := below_via hb19 (by assumption) (by go_size)
   have HUQ := Lib.hid huq
   have HBQ := Lib.hid hbq
   clear huq hbq
   by_cases hyes : bq = true ∧ Int.gcd lo e = 1
   ·obtain ⟨rfl, hgc⟩ := hyes
    have ht := (HX.out e lo).1 (by have := HBQ.out; simpa using this.symm)
    obtain ⟨y3, hy3, hv⟩ := HS.out e lo he.1 ht
    have hbm := HTB.out e lo he ⟨lo1, lo2⟩ ht
    have hR := HL.out (lo, y3, e, true) (Or.inl ⟨lo, y3, e, rfl, he, ⟨lo1, lo2⟩, hgc, ht, hy3⟩)
    have hv2 := evV_bd hA hB ⟨lo1, lo2⟩ (e := e) (by omega)
    have hy3b := root_bd hv (by omega)
    have TCV := fun W : World => Lib.hid (curveValue_any A B lo e W hA hB ⟨lo1, lo2⟩ (by omega))
    rw [← hv] at TCV hv2
    have TER := fun W : World => Lib.hid (exactRoot_any (y3 * y3) W (by omega) (by omega))
    rw [exR_sq] at TER
    have TGX := fun W : World => Lib.hid (gcd_any lo e W (by omega) (by omega) (by omega) (by omega))
    rw [show gcdI lo e = 1 by unfold gcdI; omega] at TGX
    have hside := side_sign he.1 he1.1 hmz hy3
    rw [← imp_sd] at hside
    have HSIDE := Lib.hid hside
    clear hside
    have hm8 : -8000 ≤ m ∧ m ≤ 8000 := hbm.1
    have hn8 := bd8 hbm.1 hbm.2
    clear hbm hm hn
    subst hR
    have hr := absI_nonneg y3
    have hr2 : absI y3 ≤ 3000000 := absI_le hy3b.1 hy3b.2
    clear hy3b
    clear ht hy3 hgc hv HL HS HTB HALL HX HUQ HBQ hv2 hA hB hx2 hy2 he2 l7 l7b l8 hb17 HE
    generalize absI y3 = r at *
    generalize y3 * y3 = yy at *
    have u1 := mul_bd (a := x1) (b := e) (A := 10000) (B := 20) (by omega) (by omega)
    have u2 := mul_bd (a := x1*e) (b := e) (A := 200000) (B := 20) (by omega) (by omega)
    have u3 := mul_bd (a := lo) (b := e1) (A := 10000) (B := 20) (by omega) (by omega)
    have u4 := mul_bd (a := lo*e1) (b := e1) (A := 200000) (B := 20) (by omega) (by omega)
    have u5 := mul_bd (a := n) (b := x1*e*e - lo*e1*e1) (A := 1600000) (B := 8000000) (by omega) (by omega)
    have u6 := mul_bd (a := n*(x1*e*e - lo*e1*e1)) (b := e1) (A := 12800000000000) (B := 20) (by omega) (by omega)
    have u7 := mul_bd (a := y1) (b := m) (A := 3000000) (B := 8000) (by omega) (by omega)
    have u8 := mul_bd (a := y1*m) (b := e) (A := 24000000000) (B := 20) (by omega) (by omega)
    have u9 := mul_bd (a := y1*m*e) (b := e) (A := 480000000000) (B := 20) (by omega) (by omega)
    go_upto_region 20 with (first | (go_at_call 36; (with_reducible refine ((TGX _).out).mono ?_); rintro e w' ⟨rfl, nq, rfl⟩))
    go_upto_region 21 with (first | (have _t := tok21; go_at_call 37; (with_reducible refine ((TCV _).out).mono ?_); rintro e w21 ⟨rfl, hb21⟩; clear tok21 _t; have hz21 := hb21.size; (try simp only [sA, sB, sC, sD] at hz21)) | (go_at_call 58; (with_reducible refine ((TER _).out).mono ?_); rintro e w' ⟨rfl, rfl⟩))
    replace hb21 := below_via hb21 (below_drewN (Below.refl _ w19) _) (Nat.le_refl _)
    have yu := (hb21.block (w.heap.size) (blk_lt' jb.out)).trans jb.out
    clear bg bh Zy jb
    obtain ⟨ce, cf, Jd, Wy⟩ := bk2 yu
    replace yu := Lib.hid yu
    have jg := (hb21.block (w.heap.size + 1) (blk_lt' jc.out)).trans jc.out
    clear bi bj bk Zz jc
    obtain ⟨cg, ch, ci, Je, Wz⟩ := bk3 jg
    replace jg := Lib.hid jg
    have jh := (hb21.block (w.heap.size + 1 + 1 + 1) (blk_lt' jd.out)).trans jd.out
    clear bm bn br Ja jd
    obtain ⟨cj, cl, cn, Jf, Ua⟩ := bk3 jh
    replace jh := Lib.hid jh
    have yv := (hb21.block (qc) (blk_lt' je.out)).trans je.out
    clear bu bw Jb je
    obtain ⟨co, cp, Jg, Ub⟩ := bk2 yv
    replace yv := Lib.hid yv
    have yw := (hb21.block (w16.heap.size) (blk_lt' jf.out)).trans jf.out
    clear bx cd Jc jf
    obtain ⟨cq, cr, Jh, Uc⟩ := bk2 yw
    replace yw := Lib.hid yw
    replace htr := htr.below hb21
    replace hbor := hbor.below hb21
    have hB21 : Below w.heap.size w w21 := below_via hb21 (by assumption) (by go_size)
    clear ce
    clear cf
    clear Jd yu
    clear co
    clear cp
    clear Jg yv
    clear cq
    clear cr
    clear Jh yw
    try clear uw
    try clear uy
    try clear gc
    try clear ge
    try clear gh
    try clear gk
    go_upto_region 23 with fail
    replace jg := jg.out
    replace jh := jh.out
    refine chk (fun W => Below w.heap.size w W ∧ W.heap[w.heap.size + 1 + 1 + 1]? = some (.cells #[.int .i64 0, .int .i64 0, .int .i64 0] 34 (0, 0))) (by refine ⟨?_, ?_⟩ <;> (exact ck)) ?_
    clear cg ch ci Je jg
    clear cj cl cn Jf jh
    clear hB21
    rintro w22 ⟨hB22, qo⟩
    obtain ⟨jq, jr, jt, Ud, Ue⟩ := bk3 qo
    replace qo := Lib.hid qo
    clear u1 u2 u3 u4
    by_cases hs : n*(x1*e*e - lo*e1*e1)*e1 - y1*m*e*e < 0
    ·by_cases hm0 : m < 0
     ·obtain rfl : y3 = r := by rcases HSIDE.out with ⟨h1, h2⟩ | ⟨h1, h2⟩; exact h2; exact absurd ⟨fun _ => hm0, fun _ => hs⟩ h1
      clear HSIDE
      go_upto_region 25 with fail
      iterate 40 (first | (with_reducible show bodyPost _ _ _ _ _ _) | (with_reducible refine wp_ret ?_) | go_values | go_skip | go_guarded | go_step | go_upon | go_back | skip)
      refine bodyPost_ret (v := .tuple #[.agg #[.int .i64 lo, .int .i64 y3, .int .i64 e], .bool true]) (by simp [results, Tryz.results28, go_sem, jq, jr, jt]) rfl ⟨rfl, ?_⟩
      have HO := qo.out
      (exact ck)
     ·obtain rfl : y3 = -r := by rcases HSIDE.out with ⟨h1, h2⟩ | ⟨h1, h2⟩; exact absurd (h1.1 hs) hm0; exact h2
      clear HSIDE
      go_upto_region 25 with fail
      iterate 40 (first | (with_reducible show bodyPost _ _ _ _ _ _) | (with_reducible refine wp_ret ?_) | go_values | go_skip | go_guarded | go_step | go_upon | go_back | skip)
      refine bodyPost_ret (v := .tuple #[.agg #[.int .i64 lo, .int .i64 (-r), .int .i64 e], .bool true]) (by simp [results, Tryz.results28, go_sem, jq, jr, jt]) rfl ⟨rfl, ?_⟩
      have HO := qo.out
      (exact ck)
    ·by_cases hm0 : m < 0
     ·obtain rfl : y3 = -r := by rcases HSIDE.out with ⟨h1, h2⟩ | ⟨h1, h2⟩; exact absurd (h1.2 hm0) hs; exact h2
      clear HSIDE
      go_upto_region 25 with fail
      iterate 40 (first | (with_reducible show bodyPost _ _ _ _ _ _) | (with_reducible refine wp_ret ?_) | go_values | go_skip | go_guarded | go_step | go_upon | go_back | skip)
      refine bodyPost_ret (v := .tuple #[.agg #[.int .i64 lo, .int .i64 (-r), .int .i64 e], .bool true]) (by simp [results, Tryz.results28, go_sem, jq, jr, jt]) rfl ⟨rfl, ?_⟩
      have HO := qo.out
      (exact ck)
     ·obtain rfl : y3 = r := by rcases HSIDE.out with ⟨h1, h2⟩ | ⟨h1, h2⟩; exact h2; exact absurd ⟨fun h => absurd h hs, fun h => absurd h hm0⟩ h1
      clear HSIDE
      go_upto_region 25 with fail
      iterate 40 (first | (with_reducible show bodyPost _ _ _ _ _ _) | (with_reducible refine wp_ret ?_) | go_values | go_skip | go_guarded | go_step | go_upon | go_back | skip)
      refine bodyPost_ret (v := .tuple #[.agg #[.int .i64 lo, .int .i64 y3, .int .i64 e], .bool true]) (by simp [results, Tryz.results28, go_sem, jq, jr, jt]) rfl ⟨rfl, ?_⟩
      have HO := qo.out
      (exact ck)
   ·have HALL2 := Lib.hid (show ∀ e x : Int, 1 ≤ e → e ≤ (k + 1 : Nat) → -10000 ≤ x → x ≤ 10000 → Int.gcd x e = 1 → ¬ thX n m x1 e1 x2 e2 e x from fun f x h1 h2 h3 h4 h5 h6 => by
     have hke := HE.out
     by_cases hf : f ≤ k
     ·exact HALL.out f x h1 hf h3 h4 h5 h6
     ·obtain rfl : f = e := by omega
      have h7 := (HX.out f x).2 h6
      obtain rfl := HUQ.out x h3 h4 h7
      exact hyes ⟨by rw [HBQ.out]; simpa using h7, h5⟩)
    cases bq
    ·clear hyes
     go_upto_region 17 with (first | (go_at_call 36; (with_reducible refine ((TGX _).out).mono ?_); rintro e w' ⟨rfl, nq, rfl⟩))
     go_wp2_with fail
     go_roundw
     case rel => exact ⟨k + 1, by have := HE.out; rw [show e + 1 = ((k + 1 : Nat) : Int) + 1 by omega], by omega, HALL2.out, below_via hb19 hb17 hb17.size⟩
     case measure => simp [intOf]; omega
    ·have hgq : gcdI lo e ≠ 1 := fun h => hyes ⟨rfl, by unfold gcdI at h; omega⟩
     have TGX := fun W : World => Lib.hid (gcd_any lo e W (by omega) (by omega) (by omega) (by omega))
     generalize gcdI lo e = gq at *
     have hgq' : (gq != 1) = true := by simpa using hgq
     clear hyes
     go_upto_region 17 with (first | (go_at_call 36; (with_reducible refine ((TGX _).out).mono ?_); rintro e w' ⟨rfl, nq, rfl⟩))
     go_wp2_with fail
     go_roundw
     case rel => exact ⟨k + 1, by have := HE.out; rw [show e + 1 = ((k + 1 : Nat) : Int) + 1 by omega], by omega, HALL2.out, below_drewN (below_via hb19 hb17 hb17.size) _⟩
     case measure => simp [intOf]; omega
  ·obtain rfl : k = 20 := by omega
   have hR := HL.out (0, 0, 0, false) (Or.inr ⟨rfl, fun e x he hx hg ht => HALL.out e x he.1 (by omega) hx.1 hx.2 hg ht⟩)
   subst hR
   go_upto_region 26 with fail
   iterate 40 (first | (with_reducible show bodyPost _ _ _ _ _ _) | (with_reducible refine wp_ret ?_) | go_values | go_skip | go_guarded | go_step | go_upon | go_back | skip)
   refine bodyPost_ret (v := .tuple #[.agg #[.int .i64 0, .int .i64 0, .int .i64 0], .bool false]) (by simp [results, Tryz.results28, go_sem, vn, vo, vp]) rfl ⟨rfl, ?_⟩
   have HO := qn.out
   (exact ck)
end Go.Proofs.YtnkmgpmehkholaaGreat
