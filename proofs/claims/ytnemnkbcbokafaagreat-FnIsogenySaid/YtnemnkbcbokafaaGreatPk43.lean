/- Lemmas and contracts of functions. No condition. -/
import Derived.Test.YtnemnkbcbokafaaGreatPk7
import Derived.Test.YtnemnkbcbokafaaGreatPk42
namespace Go.Proofs.YtnemnkbcbokafaaGreat
open Go.RowKit
set_option linter.unusedVariables false
set_option maxHeartbeats 16000000
set_option maxRecDepth 20000
set_option linter.unusedSimpArgs false
attribute [local go_sem] openAt openUpon
theorem td_low (a b : Int) (hb : b ≠ 0) : ∃ n m, a.tdiv (gcdI a b) = n ∧ b.tdiv (gcdI a b) = m ∧ 1 ≤ gcdI a b ∧ a = gcdI a b * n ∧ b = gcdI a b * m ∧ m ≠ 0 ∧ Int.gcd n m = 1 ∧ n.natAbs ≤ a.natAbs ∧ m.natAbs ≤ b.natAbs := by
 have hg : 0 < Int.gcd a b := Int.gcd_pos_of_ne_zero_right _ hb
 obtain ⟨p, hp⟩ := Int.gcd_dvd_left a b
 obtain ⟨q, hq⟩ := Int.gcd_dvd_right a b
 have hc : Int.gcd p q = 1 := by
  have h1 := Int.gcd_mul_left (Int.gcd a b) p q
  rw [← hp, ← hq, Int.natAbs_natCast] at h1
  exact Nat.eq_of_mul_eq_mul_left hg (by omega)
 have hP : a.tdiv (gcdI a b) = p := by
  unfold gcdI
  generalize Int.gcd a b = g at *
  rw [hp]; exact Int.mul_tdiv_cancel_left _ (by omega)
 have hQ : b.tdiv (gcdI a b) = q := by
  unfold gcdI
  generalize Int.gcd a b = g at *
  rw [hq]; exact Int.mul_tdiv_cancel_left _ (by omega)
 have b1 := tdiv_bd a (gcdI a b)
 have b2 := tdiv_bd b (gcdI a b)
 rw [hP] at b1
 rw [hQ] at b2
 refine ⟨p, q, hP, hQ, by unfold gcdI; omega, hp, hq, ?_, hc, b1, b2⟩
 intro h0
 subst h0
 simp at hq
 exact hb hq
theorem exR_sq (y : Int) : exR (y * y) = (absI y, true) := by
 have h : absI y * absI y = y * y := by unfold absI; rw [Int.natAbs_mul_self']
 have h0 := absI_nonneg y
 rw [← h]
 have h1 : rtV (absI y * absI y) = absI y := rtV_sq h0
 have h2 : ¬ absI y * absI y < 0 := by have := Int.mul_nonneg h0 h0; omega
 unfold exR
 rw [if_neg h2, h1, if_pos rfl]
theorem bd8 {n d : Int} (h : -8000 ≤ d ∧ d ≤ 8000) (h2 : -200 * d.natAbs ≤ n ∧ n ≤ 200 * d.natAbs) : -1600000 ≤ n ∧ n ≤ 1600000 := by omega
theorem side_sign {s e m e1 y : Int} (he : 1 ≤ e) (h1 : 1 ≤ e1) (hm : m ≠ 0) (h : s * e = (m*(e1*e1*e1))*y) : ((s < 0 ↔ m < 0) ∧ y = absI y) ∨ (¬ (s < 0 ↔ m < 0) ∧ y = -absI y) := by
 have hc : 0 < e1*e1*e1 := Int.mul_pos (Int.mul_pos (by omega) (by omega)) (by omega)
 have hs : ∀ t : Int, (t < 0 ↔ t * e < 0) := fun t => ⟨fun h => Int.mul_neg_of_neg_of_pos h (by omega), fun h => by
  rcases Int.lt_or_le t 0 with h' | h'
  ·exact h'
  ·have := Int.mul_nonneg h' (show 0 ≤ e by omega); omega⟩
 rw [hs s, h]
 rcases Int.lt_trichotomy y 0 with hy | hy | hy
 ·have ha : absI y = -y := by unfold absI; omega
  right
  refine ⟨?_, by omega⟩
  rcases Int.lt_or_lt_of_ne hm with hm | hm
  ·have : 0 < m*(e1*e1*e1)*y := Int.mul_pos_of_neg_of_neg (Int.mul_neg_of_neg_of_pos hm hc) hy
   omega
  ·have : m*(e1*e1*e1)*y < 0 := Int.mul_neg_of_pos_of_neg (Int.mul_pos hm hc) hy
   omega
 ·subst hy
  simp only [Int.mul_zero, Int.lt_irrefl, false_iff]
  rcases Int.lt_or_lt_of_ne hm with hm | hm
  ·right; exact ⟨by omega, rfl⟩
  ·left; exact ⟨by omega, rfl⟩
 ·have ha : absI y = y := by unfold absI; omega
  left
  refine ⟨?_, by omega⟩
  rcases Int.lt_or_lt_of_ne hm with hm | hm
  ·have : m*(e1*e1*e1)*y < 0 := Int.mul_neg_of_neg_of_pos (Int.mul_neg_of_neg_of_pos hm hc) hy
   omega
  ·have : 0 < m*(e1*e1*e1)*y := Int.mul_pos (Int.mul_pos hm hc) hy
   omega
theorem imp_thX {n m x1 e1 x2 e2 e x : Int} : m*m*(e1*e1*e2*e2)*x = (n*n*(e1*e1*e2*e2) + -(m*m*(x1*e2*e2 + x2*e1*e1)))*(e*e) ↔ thX n m x1 e1 x2 e2 e x := by
 unfold thX
 have a1 : x * (m*m*((e1*e1)*(e2*e2))) = m*m*(e1*e1*e2*e2)*x := by grind
 have a2 : (n*n*((e1*e1)*(e2*e2)) - m*m*(x1*(e2*e2) + x2*(e1*e1)))*(e*e) = (n*n*(e1*e1*e2*e2) + -(m*m*(x1*e2*e2 + x2*e1*e1)))*(e*e) := by grind
 rw [a1, a2]
theorem imp_sd {n m x1 y1 e1 e x : Int} : n*(x1*e*e - x*e1*e1)*e1 - y1*m*e*e = sdV n m x1 y1 e1 e x := by unfold sdV; grind
def AdRel (n m x1 e1 x2 e2 : Int) (w0 : World) (ev : Value) (wr : World) : Prop := ∃ k : Nat, ev = .int .i64 ((k : Int) + 1) ∧ k ≤ 20 ∧ (∀ e x : Int, 1 ≤ e → e ≤ k → -10000 ≤ x → x ≤ 10000 → Int.gcd x e = 1 → ¬ thX n m x1 e1 x2 e2 e x) ∧ Below w0.heap.size w0 wr
def openSQ (p q : Int) : St where
 ok v W := ∃ (lo : Int) (b : Bool), v = .tuple #[.int .i64 lo, .bool b] ∧ b = decide (q * lo = p) ∧ -10000 ≤ lo ∧ lo ≤ 10000 ∧ (∀ z, -10000 ≤ z → z ≤ 10000 → q * z = p → z = lo)
 keep v W W2 h hb := h
theorem open_SQ {f : FuncId} {args : Array Value} {W : World} {p q : Int} (h : Calls Tryz.prog f args W fun e w' => ∃ lo : Int, e = .returned (.tuple #[.int .i64 lo, .bool (decide (q * lo = p))]) ∧ -10000 ≤ lo ∧ lo ≤ 10000 ∧ (∀ z, -10000 ≤ z → z ≤ 10000 → q * z = p → z = lo) ∧ Below W.heap.size W w') :
  Calls Tryz.prog f args W fun e w' => ∃ v, e = .returned v ∧ (openSQ p q).ok v w' ∧ Below W.heap.size W w' :=
 h.mono fun e w' ⟨lo, h1, h2, h3, h4, h5⟩ => ⟨_, h1, ⟨lo, _, rfl, rfl, h2, h3, h4⟩, h5⟩
theorem addPoints_any (A B x1 y1 e1 x2 y2 e2 : Int) (w : World) (hA : -1000 ≤ A ∧ A ≤ 1000) (hB : -10000 ≤ B ∧ B ≤ 10000) (hp : ptB A B x1 y1 e1 = true) (hq : ptB A B x2 y2 e2 = true) :
  Calls Tryz.prog 52 #[.agg #[.int .i64 A, .int .i64 B], .agg #[.int .i64 x1, .int .i64 y1, .int .i64 e1], .agg #[.int .i64 x2, .int .i64 y2, .int .i64 e2]] w fun e w' =>
   e = .returned (.tuple #[.agg #[.int .i64 (ptS A x1 y1 e1 x2 y2 e2).1, .int .i64 (ptS A x1 y1 e1 x2 y2 e2).2.1, .int .i64 (ptS A x1 y1 e1 x2 y2 e2).2.2.1], .bool (ptS A x1 y1 e1 x2 y2 e2).2.2.2]) ∧ Below w.heap.size w w' := by
 rcases pt_cases hA hB hp with ⟨rfl, rfl, rfl⟩ | ⟨he1, hx1, hy1, hg1, hc1⟩
 ·rw [show ptS A 0 0 0 x2 y2 e2 = (x2, y2, e2, true) by simp [ptS]]
  clear hp hq
  go_enter Tryz.func52, Tryz.ntmps52
  go_wp2_with fail
  refine bodyPost_ret (v := _) (by simp [results, Tryz.results52, go_sem, *]) rfl ⟨rfl, ?_⟩
  exact bel
 rcases pt_cases hA hB hq with ⟨rfl, rfl, rfl⟩ | ⟨he2, hx2, hy2, hg2, hc2⟩
 ·rw [show ptS A x1 y1 e1 0 0 0 = (x1, y1, e1, true) by simp [ptS]; omega]
  have hz1 : e1 ≠ 0 := by omega
  clear hp hq
  go_enter Tryz.func52, Tryz.ntmps52
  go_wp2_with fail
  refine bodyPost_ret (v := _) (by simp [results, Tryz.results52, go_sem, *]) rfl ⟨rfl, ?_⟩
  exact bel
 have hz1 : e1 ≠ 0 := by omega
 have hz2 : e2 ≠ 0 := by omega
 have hzb1 : (e1 == 0) = false := by simpa using hz1
 have hzb2 : (e2 == 0) = false := by simpa using hz2
 have HZ := sl_zero he1.1 he2.1 hg1 hg2 hc1 hc2
 have hq := fun (W : World) => eql_pt2 x1 y1 e1 x2 (-y2) e2 W
 obtain ⟨R, hR⟩ : ∃ v, ptS A x1 y1 e1 x2 y2 e2 = v := ⟨_, rfl⟩
 rw [hR]
 by_cases hz : x1 = x2 ∧ y1 = -y2 ∧ e1 = e2
 ·rw [show ptS A x1 y1 e1 x2 y2 e2 = (0, 0, 0, true) by simp only [ptS, if_neg hz1, if_neg hz2, if_pos hz]] at hR
  subst hR
  rw [show decide (x1 = x2 ∧ y1 = -y2 ∧ e1 = e2) = true by simpa using hz] at hq
  clear hp hc1 hc2 hg1 hg2 HZ hz
  have tok1 := trivial
  have tok2 := trivial
  have tok3 := trivial
  go_enter Tryz.func52, Tryz.ntmps52
  go_upto_region 5 with fail
  refine chk (fun W => Below w.heap.size w W ∧ W.heap[w.heap.size]? = some (.cells #[.int .i64 A, .int .i64 B] 35 (0, 0)) ∧ W.heap[w.heap.size + 1]? = some (.cells #[.int .i64 x1, .int .i64 y1, .int .i64 e1] 45 (0, 0)) ∧ W.heap[w.heap.size + 1 + 1]? = some (.cells #[.int .i64 x2, .int .i64 y2, .int .i64 e2] 45 (0, 0)) ∧ W.heap[w.heap.size + 1 + 1 + 1]? = some (.cells #[.int .i64 0, .int .i64 0, .int .i64 0] 45 (0, 0))) (by refine ⟨?_, ?_, ?_, ?_, ?_⟩ <;> (exact ck)) ?_
  rintro w1 ⟨hB1, qb, qc, qf, qg⟩
  obtain ⟨vf, vg, wz, Jk⟩ := bk2 qb
  replace qb := Lib.hid qb
  obtain ⟨qt, qu, qw, ua, Jl⟩ := bk3 qc
  replace qc := Lib.hid qc
  obtain ⟨qz, xa, xb, ub, Jm⟩ := bk3 qf
  replace qf := Lib.hid qf
  obtain ⟨vh, vi, vj, uc, Jn⟩ := bk3 qg
  replace qg := Lib.hid qg
  refine wp_open (n := 4) (by kernel_rfl) (by kernel_rfl) (by kernel_rfl) (by kernel_rfl) ?_
  simp only [List.take_succ_cons, List.take_zero]
  apply wpS_quiet
  ·intro γ W hW hp
   have hs := hW.size
   (try simp only [sA, sB, sC, sD] at hs)
   have qh := fun x => (xcA hW (w.heap.size + 1) 0 (by first | omega | go_size) x).trans qt
   have qi := fun x => (xcA hW (w.heap.size + 1) 1 (by first | omega | go_size) x).trans qu
   have jl := fun x => (xcA hW (w.heap.size + 1) 2 (by first | omega | go_size) x).trans qw
   clear hW hp
   refine ⟨rfl, ?_⟩
   go_big_quiet_op
   first | exact rfl
  ·exact locS_const _
  try simp only [Act.put, List.setIfInBounds_toArray, List.set_cons_succ, List.set_cons_zero, Nat.reduceAdd]
  apply wpS_quiet
  ·intro γ W hW hp
   have hs := hW.size
   (try simp only [sA, sB, sC, sD] at hs)
   have qh := fun x => (xcA hW (w.heap.size + 1 + 1) 0 (by first | omega | go_size) x).trans qz
   have qi := fun x => (xcA hW (w.heap.size + 1 + 1) 1 (by first | omega | go_size) x).trans xa
   have jl := fun x => (xcA hW (w.heap.size + 1 + 1) 2 (by first | omega | go_size) x).trans xb
   clear hW hp
   refine ⟨rfl, ?_⟩
   go_big_quiet_op
   first | exact rfl
  ·exact locS_const _
  try simp only [Act.put, List.setIfInBounds_toArray, List.set_cons_succ, List.set_cons_zero, Nat.reduceAdd]
  apply wpS_quiet
  ·intro γ W hW hp
   refine ⟨rfl, ?_⟩
   go_big_quiet_op
   apply Exists.intro
   refine ⟨fun x => ?_, ?_⟩
   ·(first | (go_at_call 76; exact draw_of _ (opposite_any x2 y2 e2 _ (by omega))))
   exact rfl
  ·exact locS_const _
  try simp only [Act.put, List.setIfInBounds_toArray, List.set_cons_succ, List.set_cons_zero, Nat.reduceAdd]
  apply wpS_quiet
  ·intro γ W hW hp
   refine ⟨rfl, ?_⟩
   go_big_quiet_op
   first | exact rfl
  ·exact locS_const _
  try simp only [Act.put, List.setIfInBounds_toArray, List.set_cons_succ, List.set_cons_zero, Nat.reduceAdd]
  apply wpS_end
  intro γ w2 hb2 hG2 hA2
  clear hG2 hA2
  simp only [List.drop_succ_cons, List.drop_zero]
  have hz2 := hb2.size
  (try simp only [sA, sB, sC, sD] at hz2)
  have qk := (hb2.block (w.heap.size) (blk_lt' qb.out)).trans qb.out
  clear vf vg wz qb
  obtain ⟨wg, wi, cw, Jo⟩ := bk2 qk
  replace qk := Lib.hid qk
  have ql := (hb2.block (w.heap.size + 1) (blk_lt' qc.out)).trans qc.out
  clear qt qu qw ua qc
  obtain ⟨wj, wk, wl, cy, Jp⟩ := bk3 ql
  replace ql := Lib.hid ql
  have qm := (hb2.block (w.heap.size + 1 + 1) (blk_lt' qf.out)).trans qf.out
  clear qz xa xb ub qf
  obtain ⟨wm, wn, wo, cz, Jq⟩ := bk3 qm
  replace qm := Lib.hid qm
  have qj := (hb2.block (w.heap.size + 1 + 1 + 1) (blk_lt' qg.out)).trans qg.out
  clear vh vi vj uc qg
  obtain ⟨vk, vl, vm, na, Jr⟩ := bk3 qj
  replace qj := Lib.hid qj
  have hB2 : Below w.heap.size w w2 := below_via hb2 (by assumption) (by first | exact hB1.size | go_size)
  iterate 24 (first | (with_reducible show bodyPost _ _ _ _ _ _) | (with_reducible refine wp_ret ?_) | go_values | go_skip | go_guarded | go_step | go_upon | go_back | skip)
  refine bodyPost_ret (v := .tuple #[.agg #[.int .i64 0, .int .i64 0, .int .i64 0], .bool true]) (by simp [results, Tryz.results52, go_sem, vk, vl, vm]) rfl ⟨rfl, ?_⟩
  have HO := qj.out
  (exact ck)
 rw [show decide (x1 = x2 ∧ y1 = -y2 ∧ e1 = e2) = false by simpa using hz] at hq
 rw [ptS_thV hz1 hz2 hz] at hR
 have hzd : slD x1 y1 e1 x2 y2 e2 ≠ 0 := fun t => hz (HZ.1 t)
 have hcv := fun (e x : Int) he h => sl_curve (e := e) (x := x) he1.1 he2.1 hc1 hc2 hzd he h
 have hbd := sl_bd hA hx1 hx2 hy1 hy2 he1 he2
 have hb1 : -48000000000 ≤ slN A x1 y1 e1 x2 y2 e2 ∧ slN A x1 y1 e1 x2 y2 e2 ≤ 48000000000 := by unfold slN; split <;> omega
 have hb2 : -3200000000 ≤ slD x1 y1 e1 x2 y2 e2 ∧ slD x1 y1 e1 x2 y2 e2 ≤ 3200000000 := by unfold slD; split <;> omega
 have TS := fun W : World => Lib.hid (slope_any A B x1 y1 e1 x2 y2 e2 W hA hx1 hx2 hy1 hy2 he1 he2)
 obtain ⟨n, m, hn0, hm0, hgp, hgn, hgm, hmz, hcop, hnb, hmb⟩ := td_low (slN A x1 y1 e1 x2 y2 e2) (slD x1 y1 e1 x2 y2 e2) hzd
 have TG := fun W : World => Lib.hid (gcd_any (slN A x1 y1 e1 x2 y2 e2) (slD x1 y1 e1 x2 y2 e2) W (by omega) (by omega) (by omega) (by omega))
 have hlow : ∀ r, Third n m x1 y1 e1 x2 e2 r → R = r := fun r h => by
  rw [← hR]
  have := thV_scaled (g := gcdI (slN A x1 y1 e1 x2 y2 e2) (slD x1 y1 e1 x2 y2 e2)) (by omega) hmz hz1 hz2 h
  rw [← hgn, ← hgm] at this
  exact this
 have hS : ∀ e x : Int, 1 ≤ e → thX n m x1 e1 x2 e2 e x → ∃ y, sdV n m x1 y1 e1 e x * e = (m*(e1*e1*e1))*y ∧ y*y = evV A B x e := by
  intro e x he ht
  have hg0 : gcdI (slN A x1 y1 e1 x2 y2 e2) (slD x1 y1 e1 x2 y2 e2) ≠ 0 := by omega
  have q := (thX_scale hg0 ..).2 ht
  rw [← hgn, ← hgm] at q
  obtain ⟨y, h1, h2⟩ := hcv e x he q
  exact ⟨y, (sd_scale hg0 ..).1 (by rw [← hgn, ← hgm]; exact h1), h2⟩
 have hthb := fun (e x : Int) (h3 : 1 ≤ e ∧ e ≤ 20) (hx : -10000 ≤ x ∧ x ≤ 10000) ht => third_bd (n := n) (d := m) (e := e) (x := x) hcop hmz he1 he2 h3 hx1 hx2 hx ht
 have HD0 := Lib.hid hn0
 clear hcv hgn hgm HZ hp hc1 hc2 hg1 hg2 hbd hR hz hzd hcop
 generalize slN A x1 y1 e1 x2 y2 e2 = N at *
 generalize slD x1 y1 e1 x2 y2 e2 = M at *
 generalize gcdI N M = g at *
 have hgz : g ≠ 0 := by omega
 have hn : -48000000000 ≤ n ∧ n ≤ 48000000000 := by omega
 have hm : -3200000000 ≤ m ∧ m ≤ 3200000000 := by omega
 have HHN := Lib.hid hn0
 have HHM := Lib.hid hm0
 clear hnb hmb hn0 hm0 HD0
 have HS := Lib.hid hS
 have HL := Lib.hid hlow
 have HTB := Lib.hid hthb
 clear hS hlow hthb
 have tok1 := trivial
 have tok2 := trivial
 have tok3 := trivial
 have tok4 := trivial
 have tok5 := trivial
 have tok6 := trivial
 have tok7 := trivial
 have tok8 := trivial
 have tok9 := trivial
 have tok10 := trivial
 have tok11 := trivial
 have tok12 := trivial
 have tok13 := trivial
 have tok14 := trivial
 have tok15 := trivial
 have tok16 := trivial
 have tok17 := trivial
 have tok18 := trivial
 have tok19 := trivial
 have tok20 := trivial
 have tok21 := trivial
 have tok22 := trivial
 have tok23 := trivial
 have tok24 := trivial
 have tok25 := trivial
 have tok26 := trivial
 have tok27 := trivial
 have tok28 := trivial
 have tok29 := trivial
 have tok30 := trivial
 go_enter Tryz.func52, Tryz.ntmps52
 go_upto_region 5 with fail
 refine chk (fun W => Below w.heap.size w W ∧ W.heap[w.heap.size]? = some (.cells #[.int .i64 A, .int .i64 B] 35 (0, 0)) ∧ W.heap[w.heap.size + 1]? = some (.cells #[.int .i64 x1, .int .i64 y1, .int .i64 e1] 45 (0, 0)) ∧ W.heap[w.heap.size + 1 + 1]? = some (.cells #[.int .i64 x2, .int .i64 y2, .int .i64 e2] 45 (0, 0)) ∧ W.heap[w.heap.size + 1 + 1 + 1]? = some (.cells #[.int .i64 0, .int .i64 0, .int .i64 0] 45 (0, 0))) (by refine ⟨?_, ?_, ?_, ?_, ?_⟩ <;> (exact ck)) ?_
 rintro w1 ⟨hB1, qb, qc, qf, qg⟩
 obtain ⟨vf, vg, wz, Jk⟩ := bk2 qb
 replace qb := Lib.hid qb
 obtain ⟨qt, qu, qw, ua, Jl⟩ := bk3 qc
 replace qc := Lib.hid qc
 obtain ⟨qz, xa, xb, ub, Jm⟩ := bk3 qf
 replace qf := Lib.hid qf
 obtain ⟨vh, vi, vj, uc, Jn⟩ := bk3 qg
 replace qg := Lib.hid qg
 refine wp_open (n := 4) (by kernel_rfl) (by kernel_rfl) (by kernel_rfl) (by kernel_rfl) ?_
 simp only [List.take_succ_cons, List.take_zero]
 apply wpS_quiet
 ·intro γ W hW hp
  have hs := hW.size
  (try simp only [sA, sB, sC, sD] at hs)
  have qh := fun x => (xcA hW (w.heap.size + 1) 0 (by first | omega | go_size) x).trans qt
  have qi := fun x => (xcA hW (w.heap.size + 1) 1 (by first | omega | go_size) x).trans qu
  have jl := fun x => (xcA hW (w.heap.size + 1) 2 (by first | omega | go_size) x).trans qw
  clear hW hp
  refine ⟨rfl, ?_⟩
  go_big_quiet_op
  first | exact rfl
 ·exact locS_const _
 try simp only [Act.put, List.setIfInBounds_toArray, List.set_cons_succ, List.set_cons_zero, Nat.reduceAdd]
 apply wpS_quiet
 ·intro γ W hW hp
  have hs := hW.size
  (try simp only [sA, sB, sC, sD] at hs)
  have qh := fun x => (xcA hW (w.heap.size + 1 + 1) 0 (by first | omega | go_size) x).trans qz
  have qi := fun x => (xcA hW (w.heap.size + 1 + 1) 1 (by first | omega | go_size) x).trans xa
  have jl := fun x => (xcA hW (w.heap.size + 1 + 1) 2 (by first | omega | go_size) x).trans xb
  clear hW hp
  refine ⟨rfl, ?_⟩
  go_big_quiet_op
  first | exact rfl
 ·exact locS_const _
 try simp only [Act.put, List.setIfInBounds_toArray, List.set_cons_succ, List.set_cons_zero, Nat.reduceAdd]
 apply wpS_quiet
 ·intro γ W hW hp
  refine ⟨rfl, ?_⟩
  go_big_quiet_op
  apply Exists.intro
  refine ⟨fun x => ?_, ?_⟩
  ·(first | (go_at_call 76; exact draw_of _ (opposite_any x2 y2 e2 _ (by omega))))
  exact rfl
 ·exact locS_const _
 try simp only [Act.put, List.setIfInBounds_toArray, List.set_cons_succ, List.set_cons_zero, Nat.reduceAdd]
 apply wpS_quiet
 ·intro γ W hW hp
  refine ⟨rfl, ?_⟩
  go_big_quiet_op
  first | exact rfl
 ·exact locS_const _
 try simp only [Act.put, List.setIfInBounds_toArray, List.set_cons_succ, List.set_cons_zero, Nat.reduceAdd]
 apply wpS_end
 intro γ w2 hb2 hG2 hA2
 clear hG2 hA2
 simp only [List.drop_succ_cons, List.drop_zero]
 have hz2 := hb2.size
 (try simp only [sA, sB, sC, sD] at hz2)
 have qk := (hb2.block (w.heap.size) (blk_lt' qb.out)).trans qb.out
 clear vf vg wz qb
 obtain ⟨wg, wi, cw, Jo⟩ := bk2 qk
 replace qk := Lib.hid qk
 have ql := (hb2.block (w.heap.size + 1) (blk_lt' qc.out)).trans qc.out
 clear qt qu qw ua qc
 obtain ⟨wj, wk, wl, cy, Jp⟩ := bk3 ql
 replace ql := Lib.hid ql
 have qm := (hb2.block (w.heap.size + 1 + 1) (blk_lt' qf.out)).trans qf.out
 clear qz xa xb ub qf
 obtain ⟨wm, wn, wo, cz, Jq⟩ := bk3 qm
 replace qm := Lib.hid qm
 have qj := (hb2.block (w.heap.size + 1 + 1 + 1) (blk_lt' qg.out)).trans qg.out
 clear vh vi vj uc qg
 obtain ⟨vk, vl, vm, na, Jr⟩ := bk3 qj
 replace qj := Lib.hid qj
 have hB2 : Below w.heap.size w w2 := below_via hb2 (by assumption) (by first | exact hB1.size | go_size)
 clear hq
 go_upto_region 8 with (first | (have _t := tok3; go_at_call 77; (with_reducible refine ((TS _).out).mono ?_); rintro e w3 ⟨rfl, hb3⟩; clear tok3 _t; have hz3 := hb3.size; (try simp only [sA, sB, sC, sD] at hz3)) | (go_at_call 56; (with_reducible refine ((TG _).out).mono ?_); rintro e w' ⟨rfl, nq, rfl⟩))
 have jx := (hb3.block (w.heap.size) (blk_lt' qk.out)).trans qk.out
 clear wg wi cw qk
 obtain ⟨ng, nh, Js, Ul⟩ := bk2 jx
 replace jx := Lib.hid jx
 have jy := (hb3.block (w.heap.size + 1) (blk_lt' ql.out)).trans ql.out
 clear wj wk wl cy ql
 obtain ⟨ni, nj, nk, Jt, Um⟩ := bk3 jy
 replace jy := Lib.hid jy
 have jz := (hb3.block (w.heap.size + 1 + 1) (blk_lt' qm.out)).trans qm.out
 clear wm wn wo cz qm
 obtain ⟨nl, nm, np, Ju, Un⟩ := bk3 jz
 replace jz := Lib.hid jz
 have ya := (hb3.block (w.heap.size + 1 + 1 + 1) (blk_lt' qj.out)).trans qj.out
 clear vk vl vm na qj
 obtain ⟨nr, ns, nt, Jv, Uo⟩ := bk3 ya
 replace ya := Lib.hid ya
 have hB3 : Below w.heap.size w w3 := below_via hb3 (by assumption) (by first | exact hB2.size | go_size)
 clear TS
 go_upto_region 9 with (first | (have _t := tok3; go_at_call 77; (with_reducible refine ((TS _).out).mono ?_); rintro e w3 ⟨rfl, hb3⟩; clear tok3 _t; have hz3 := hb3.size; (try simp only [sA, sB, sC, sD] at hz3)) | (go_at_call 56; (with_reducible refine ((TG _).out).mono ?_); rintro e w' ⟨rfl, nq, rfl⟩))
 go_region
 rw [HHN.out, HHM.out]
 clear TG HHN HHM hgz hgp hb1 hb2
 have lm : ln m ≤ 10000 := Nat.le_trans (ln_small (by omega) (by omega)) (by omega)
 have lnn : ln n ≤ 10000 := Nat.le_trans (ln_small (by omega) (by omega)) (by omega)
 have lm5 : ln m ≤ 5 := ln_small (by omega) (by omega)
 have ln5 : ln n ≤ 5 := ln_small (by omega) (by omega)
 have TM := fun W : World => wholeOf_any m W (by omega) (by omega)
 have TN := fun W : World => wholeOf_any n W (by omega) (by omega)
 obtain ⟨mm, hmm⟩ : ∃ v, m * m = v := ⟨_, rfl⟩
 obtain ⟨nn, hnn⟩ : ∃ v, n * n = v := ⟨_, rfl⟩
 obtain ⟨ee, hee0⟩ : ∃ v, e1*e1*e2*e2 = v := ⟨_, rfl⟩
 obtain ⟨sm, hsm⟩ : ∃ v, x1*e2*e2 + x2*e1*e1 = v := ⟨_, rfl⟩
 obtain ⟨t1, ht10⟩ : ∃ v, nn * ee = v := ⟨_, rfl⟩
 obtain ⟨t2, ht2⟩ : ∃ v, mm * sm = v := ⟨_, rfl⟩
 obtain ⟨t, ht⟩ : ∃ v, t1 + -t2 = v := ⟨_, rfl⟩
 obtain ⟨bo, hbo0⟩ : ∃ v, mm * ee = v := ⟨_, rfl⟩
 have wk1 := mul_bd (a := e1) (b := e1) (A := 20) (B := 20) (by omega) (by omega)
 have wk2 := mul_bd (a := e1*e1) (b := e2) (A := 400) (B := 20) (by omega) (by omega)
 have wk3 := mul_bd (a := e1*e1*e2) (b := e2) (A := 8000) (B := 20) (by omega) (by omega)
 have wk4 := mul_bd (a := x1) (b := e2) (A := 10000) (B := 20) (by omega) (by omega)
 have wk5 := mul_bd (a := x1*e2) (b := e2) (A := 200000) (B := 20) (by omega) (by omega)
 have wk6 := mul_bd (a := x2) (b := e1) (A := 10000) (B := 20) (by omega) (by omega)
 have wk7 := mul_bd (a := x2*e1) (b := e1) (A := 200000) (B := 20) (by omega) (by omega)
 have TE := fun W : World => wholeOf_any (e1*e1*e2*e2) W (by omega) (by omega)
 have TU := fun W : World => wholeOf_any (x1*e2*e2 + x2*e1*e1) W (by omega) (by omega)
 have q1 : ln ee ≤ 5 := by rw [← hee0]; exact ln_small (by omega) (by omega)
 have q2 : ln sm ≤ 5 := by rw [← hsm]; exact ln_small (by omega) (by omega)
 have q3 : ln mm ≤ 10 := by rw [← hmm]; exact ln_mul_le lm5 lm5
 have q4 : ln nn ≤ 10 := by rw [← hnn]; exact ln_mul_le ln5 ln5
 have q5 : ln t1 ≤ 15 := by rw [← ht10]; exact ln_mul_le q4 q1
 have q6 : ln t2 ≤ 15 := by rw [← ht2]; exact ln_mul_le q3 q2
 have q7 : ln t ≤ 16 := by rw [← ht]; exact ln_add_le q5 (by rw [ln_neg]; exact q6)
 have q8 : ln bo ≤ 15 := by rw [← hbo0]; exact ln_mul_le q3 q1
 have l1 : ln nn ≤ 10000 := by omega
 have l2 : ln ee ≤ 10000 := by omega
 have l3 : ln mm ≤ 10000 := by omega
 have l4 : ln sm ≤ 10000 := by omega
 have l5 : ln t1 ≤ 10000 := by omega
 have l6 : ln (-t2) ≤ 10000 := by rw [ln_neg]; omega
 have HBP := Lib.hid (show 0 < bo by
  have h1 : 0 < m * m := by rcases Int.lt_or_lt_of_ne hmz with h | h; exact Int.mul_pos_of_neg_of_neg h h; exact Int.mul_pos h h
  have h2 : 0 < e1*e1*e2*e2 := Int.mul_pos (Int.mul_pos (Int.mul_pos (by omega) (by omega)) (by omega)) (by omega)
  rw [← hbo0, ← hmm, ← hee0]; exact Int.mul_pos h1 h2)
 have HX := Lib.hid (show ∀ e x : Int, bo * x = t * (e * e) ↔ thX n m x1 e1 x2 e2 e x from fun e x => by
  rw [← hbo0, ← ht, ← ht10, ← ht2, ← hmm, ← hnn, ← hee0, ← hsm]; exact imp_thX)
 rw [hee0] at TE
 rw [hsm] at TU
 have HM2 := Lib.hid hmm
 have HNN := Lib.hid hnn
 have HT1 := Lib.hid ht10
 have HT2 := Lib.hid ht2
 have HT := Lib.hid ht
 have HB := Lib.hid hbo0
 have HE0 := hee0
 have HS0 := hsm
 clear hmm hnn ht10 ht2 ht hbo0 hee0 hsm
 go_upto_region 10 with fail
 replace jx := jx.out
 replace jy := jy.out
 replace jz := jz.out
 replace ya := ya.out
 refine chk (fun W => Below w.heap.size w W ∧ W.heap[w.heap.size]? = some (.cells #[.int .i64 A, .int .i64 B] 35 (0, 0)) ∧ W.heap[w.heap.size + 1]? = some (.cells #[.int .i64 x1, .int .i64 y1, .int .i64 e1] 45 (0, 0)) ∧ W.heap[w.heap.size + 1 + 1]? = some (.cells #[.int .i64 x2, .int .i64 y2, .int .i64 e2] 45 (0, 0)) ∧ W.heap[w.heap.size + 1 + 1 + 1]? = some (.cells #[.int .i64 0, .int .i64 0, .int .i64 0] 45 (0, 0))) (by refine ⟨?_, ?_, ?_, ?_, ?_⟩ <;> (exact ck)) ?_
 clear ng nh Js jx
 clear ni nj nk Jt jy
 clear nl nm np Ju jz
 clear nr ns nt Jv ya
 clear hB3
 rintro w40 ⟨hB40, xc, xe, xf, xg⟩
 obtain ⟨ul, um, Xa, Yw⟩ := bk2 xc
 replace xc := Lib.hid xc
 obtain ⟨uq, ur, us, Xb, Yx⟩ := bk3 xe
 replace xe := Lib.hid xe
 obtain ⟨ut, uw, ux, Xc, Yy⟩ := bk3 xf
 replace xf := Lib.hid xf
 obtain ⟨uy, uz, gc, Xd, Yz⟩ := bk3 xg
 replace xg := Lib.hid xg
 go_upto_region 11 with (first | (have _t := tok4; go_at_call 79; (with_reducible refine ((TM _)).mono ?_); rintro e w4 ⟨b4, a4, n4, c4, rfl, h4, f4, hb4⟩; clear tok4 _t; have hz4 := hb4.size; (try simp only [sA, sB, sC, sD] at hz4)) | (have _t := tok5; go_at_call 79; (with_reducible refine ((TM _)).mono ?_); rintro e w5 ⟨b5, a5, n5, c5, rfl, h5, f5, hb5⟩; clear tok5 _t; have hz5 := hb5.size; (try simp only [sA, sB, sC, sD] at hz5)) | (have _t := tok6; go_at_call 78; refine (mulWholes_eq (h4.below hb5) h5 HM2.out lm lm).mono ?_; rintro e w6 ⟨b6, a6, n6, c6, rfl, hm2, f6, hb6⟩; clear tok6 _t; have hz6 := hb6.size; (try simp only [sA, sB, sC, sD] at hz6)))
 replace hb6 := below_via hb6 (below_via hb5 hb4 (by have := hb4.size; omega)) (by have := hb4.size; have := hb5.size; omega)
 have yb := (hb6.block (w.heap.size) (blk_lt' xc.out)).trans xc.out
 clear ul um Xa xc
 obtain ⟨nu, nz, Jw, Up⟩ := bk2 yb
 replace yb := Lib.hid yb
 have yc := (hb6.block (w.heap.size + 1) (blk_lt' xe.out)).trans xe.out
 clear uq ur us Xb xe
 obtain ⟨ma, mb, mc, Jx, Uq⟩ := bk3 yc
 replace yc := Lib.hid yc
 have ye := (hb6.block (w.heap.size + 1 + 1) (blk_lt' xf.out)).trans xf.out
 clear ut uw ux Xc xf
 obtain ⟨me, mf, mg, Jy, Ur⟩ := bk3 ye
 replace ye := Lib.hid ye
 have yf := (hb6.block (w.heap.size + 1 + 1 + 1) (blk_lt' xg.out)).trans xg.out
 clear uy uz gc Xd xg
 obtain ⟨mh, mi, mj, Jz, Us⟩ := bk3 yf
 replace yf := Lib.hid yf
 have hB6 : Below w.heap.size w w6 := below_via hb6 (by assumption) (by first | exact hB40.size | go_size)
 clear h4 h5 f4 f5 f6 hb4 hb5
 replace yb := yb.out
 replace yc := yc.out
 replace ye := ye.out
 replace yf := yf.out
 refine chk (fun W => Below w.heap.size w W ∧ W.heap[w.heap.size]? = some (.cells #[.int .i64 A, .int .i64 B] 35 (0, 0)) ∧ W.heap[w.heap.size + 1]? = some (.cells #[.int .i64 x1, .int .i64 y1, .int .i64 e1] 45 (0, 0)) ∧ W.heap[w.heap.size + 1 + 1]? = some (.cells #[.int .i64 x2, .int .i64 y2, .int .i64 e2] 45 (0, 0)) ∧ W.heap[w.heap.size + 1 + 1 + 1]? = some (.cells #[.int .i64 0, .int .i64 0, .int .i64 0] 45 (0, 0)) ∧ W.heap[w6.heap.size]? = some (.cells #[.bool b6, .slice a6 n6 c6] 88 (0, 0)) ∧ Wx W b6 a6 n6 c6 mm) (by refine ⟨?_, ?_, ?_, ?_, ?_, ?_, ?_⟩ <;> (exact ck)) ?_
 try clear hm2
 clear nu nz Jw yb
 clear ma mb mc Jx yc
 clear me mf mg Jy ye
 clear mh mi mj Jz yf
 clear hB6
 rintro w7 ⟨hB7, yg, yh, yi, yj, yk, hm2'⟩
 obtain ⟨ml, mn, Ya, Ut⟩ := bk2 yg
 replace yg := Lib.hid yg
 obtain ⟨mo, mp, mq, Yb, Uu⟩ := bk3 yh
 replace yh := Lib.hid yh
 obtain ⟨mr, ms, mt, Yc, Uv⟩ := bk3 yi
 replace yi := Lib.hid yi
 obtain ⟨mu, mw, mx, Yd, Uw⟩ := bk3 yj
 replace yj := Lib.hid yj
 obtain ⟨my, mz, Ye, Ux⟩ := bk2 yk
 replace yk := Lib.hid yk
 have hm2 := hm2'
 clear hm2'
 go_upto_region 12 with (first | (have _t := tok8; go_at_call 79; (with_reducible refine ((TE _)).mono ?_); rintro e w8 ⟨b8, a8, n8, c8, rfl, hee, f8, hb8⟩; clear tok8 _t; have hz8 := hb8.size; (try simp only [sA, sB, sC, sD] at hz8)))
 have yl := (hb8.block (w.heap.size) (blk_lt' yg.out)).trans yg.out
 clear ml mn Ya yg
 obtain ⟨Qa, Qb, Yf, Uy⟩ := bk2 yl
 replace yl := Lib.hid yl
 have ym := (hb8.block (w.heap.size + 1) (blk_lt' yh.out)).trans yh.out
 clear mo mp mq Yb yh
 obtain ⟨Qc, Qd, Qe, Yg, Uz⟩ := bk3 ym
 replace ym := Lib.hid ym
 have yp := (hb8.block (w.heap.size + 1 + 1) (blk_lt' yi.out)).trans yi.out
 clear mr ms mt Yc yi
 obtain ⟨Qf, Qg, Qh, Yh, Ga⟩ := bk3 yp
 replace yp := Lib.hid yp
 have yq := (hb8.block (w.heap.size + 1 + 1 + 1) (blk_lt' yj.out)).trans yj.out
 clear mu mw mx Yd yj
 obtain ⟨Qi, Qj, Qk, Yi, Gb⟩ := bk3 yq
 replace yq := Lib.hid yq
 have yr := (hb8.block (w6.heap.size) (blk_lt' yk.out)).trans yk.out
 clear my mz Ye yk
 obtain ⟨Ql, Qm, Yj, Gc⟩ := bk2 yr
 replace yr := Lib.hid yr
 replace hm2 := hm2.below hb8
 have hB8 : Below w.heap.size w w8 := below_via hb8 (by assumption) (by first | exact hB7.size | go_size)
 clear f8 TM TE
 replace yl := yl.out
 replace ym := ym.out
 replace yp := yp.out
 replace yq := yq.out
 replace yr := yr.out
 refine chk (fun W => Below w.heap.size w W ∧ W.heap[w.heap.size]? = some (.cells #[.int .i64 A, .int .i64 B] 35 (0, 0)) ∧ W.heap[w.heap.size + 1]? = some (.cells #[.int .i64 x1, .int .i64 y1, .int .i64 e1] 45 (0, 0)) ∧ W.heap[w.heap.size + 1 + 1]? = some (.cells #[.int .i64 x2, .int .i64 y2, .int .i64 e2] 45 (0, 0)) ∧ W.heap[w.heap.size + 1 + 1 + 1]? = some (.cells #[.int .i64 0, .int .i64 0, .int .i64 0] 45 (0, 0)) ∧ W.heap[w6.heap.size]? = some (.cells #[.bool b6, .slice a6 n6 c6] 88 (0, 0)) ∧ W.heap[w8.heap.size]? = some (.cells #[.bool b8, .slice a8 n8 c8] 88 (0, 0)) ∧ Wx W b6 a6 n6 c6 mm ∧ Wx W b8 a8 n8 c8 ee) (by refine ⟨?_, ?_, ?_, ?_, ?_, ?_, ?_, ?_, ?_⟩ <;> (exact ck)) ?_
 try clear hm2
 try clear hee
 clear Qa Qb Yf yl
 clear Qc Qd Qe Yg ym
 clear Qf Qg Qh Yh yp
 clear Qi Qj Qk Yi yq
 clear Ql Qm Yj yr
 clear hB8
 rintro w9 ⟨hB9, yt, yu, yv, yw, yx, yz, hm2', hee'⟩
 obtain ⟨Qn, Qo, Yk, Yl⟩ := bk2 yt
 replace yt := Lib.hid yt
 obtain ⟨Qp, Qq, Qr, Ym, Yn⟩ := bk3 yu
 replace yu := Lib.hid yu
 obtain ⟨Qs, Qt, Qu, Yo, Yp⟩ := bk3 yv
 replace yv := Lib.hid yv
 obtain ⟨Qv, Qw, Qx, Yq, Yr⟩ := bk3 yw
 replace yw := Lib.hid yw
 obtain ⟨Qy, Qz, Ys, Yt⟩ := bk2 yx
 replace yx := Lib.hid yx
 obtain ⟨wq, ws, Yu, Yv⟩ := bk2 yz
 replace yz := Lib.hid yz
 have hm2 := hm2'
 clear hm2'
 have hee := hee'
 clear hee'
 refine wp_open (n := 8) (by kernel_rfl) (by kernel_rfl) (by kernel_rfl) (by kernel_rfl) ?_
 simp only [List.take_succ_cons, List.take_zero]
 apply wpS_quiet
 ·intro γ W hW hp
  refine ⟨rfl, ?_⟩
  go_big_quiet_op
  first | exact rfl
 ·exact locS_const _
 try simp only [Act.put, List.setIfInBounds_toArray, List.set_cons_succ, List.set_cons_zero, Nat.reduceAdd]
 apply wpS_open (openW w.heap.size n)
 ·intro γ W hW hp
  refine ⟨rfl, ?_⟩
  go_simp
  refine plainNew rfl ?_
  exact open_W (TN _) (by (have := hW.size; (try simp only [sA, sB, sC, sD] at this); omega))
 try simp only [Act.put, List.setIfInBounds_toArray, List.set_cons_succ, List.set_cons_zero, Nat.reduceAdd]
 apply wpS_quiet
 ·intro γ W hW hp
  refine ⟨rfl, ?_⟩
  go_big_quiet_op
  first | exact rfl
 ·exact locS_const _
 try simp only [Act.put, List.setIfInBounds_toArray, List.set_cons_succ, List.set_cons_zero, Nat.reduceAdd]
 apply wpS_open (openW w.heap.size n)
 ·intro γ W hW hp
  refine ⟨rfl, ?_⟩
  go_simp
  refine plainNew rfl ?_
  exact open_W (TN _) (by (have := hW.size; (try simp only [sA, sB, sC, sD] at this); omega))
 try simp only [Act.put, List.setIfInBounds_toArray, List.set_cons_succ, List.set_cons_zero, Nat.reduceAdd]
 apply wpS_open (openW w.heap.size nn)
 ·intro γ W hW hp
  have Xe := hp _ (mL _ (mR _)) (by kernel_rfl)
  dsimp only at Xe
  have Xf := hp _ (mR _) (by kernel_rfl)
  dsimp only at Xf
  refine ⟨rfl, ?_⟩
  go_simp
  refine plainNew rfl ?_
  obtain ⟨b3, a3, n3, c3, e3, h3, _⟩ := Xe
  obtain ⟨b4, a4, n4, c4, e4, h4, _⟩ := Xf
  rw [e3, e4]
  exact open_W (mulWholes_eq h3 h4 HNN.out lnn lnn) (by (have := hW.size; (try simp only [sA, sB, sC, sD] at this); omega))
 try simp only [Act.put, List.setIfInBounds_toArray, List.set_cons_succ, List.set_cons_zero, Nat.reduceAdd]
 apply wpS_quiet
 ·intro γ W hW hp
  have hs := hW.size
  (try simp only [sA, sB, sC, sD] at hs)
  have qh := fun x => (xcA hW (w8.heap.size) 0 (by first | omega | go_size) x).trans wq
  have qi := fun x => (xcA hW (w8.heap.size) 1 (by first | omega | go_size) x).trans ws
  clear hW hp
  refine ⟨rfl, ?_⟩
  go_big_quiet_op
  first | exact rfl
 ·exact locS_const _
 try simp only [Act.put, List.setIfInBounds_toArray, List.set_cons_succ, List.set_cons_zero, Nat.reduceAdd]
 apply wpS_open (openW w.heap.size t1)
 ·intro γ W hW hp
  have vn := hp _ (mR _) (by kernel_rfl)
  dsimp only at vn
  refine ⟨rfl, ?_⟩
  go_simp
  refine plainNew rfl ?_
  obtain ⟨b3, a3, n3, c3, e3, h3, _⟩ := vn
  rw [e3]
  exact open_W (mulWholes_eq h3 (hee.below hW) HT1.out l1 l2) (by (have := hW.size; (try simp only [sA, sB, sC, sD] at this); omega))
 try simp only [Act.put, List.setIfInBounds_toArray, List.set_cons_succ, List.set_cons_zero, Nat.reduceAdd]
 apply wpS_open (newBox _ _ _)
 ·intro γ W hW hp
  refine ⟨rfl, ?_⟩
  go_simp
  exact ⟨⟨⟨_, rfl, hW.size, heap_alloc_new _ _⟩, fun _ => ⟨_, rfl, Nat.le_refl _, by simp⟩⟩, (Below.refl _ _).alloc (Nat.le_refl _) _⟩
 try simp only [Act.put, List.setIfInBounds_toArray, List.set_cons_succ, List.set_cons_zero, Nat.reduceAdd]
 apply wpS_end
 intro γ w10 hb10 hG10 hA10
 have uf := hG10 _ (mL _ (mL _ (mL _ (mL _ (mR _)))))
 dsimp only at uf
 have ug := hG10 _ (mL _ (mL _ (mL _ (mR _))))
 dsimp only at ug
 have uh := hG10 _ (mL _ (mL _ (mR _)))
 dsimp only at uh
 have ui := hG10 _ (mL _ (mR _))
 dsimp only at ui
 obtain ⟨qa, ue, qr, va⟩ := hG10 _ (mR _)
 dsimp only at ue qr va
 have Xg := fun o => blk_cell va o
 have Xh := fun o => blk_frozen va o
 have Va := blk_lt' va
 have gd : w.heap.size ≠ qa := Nat.ne_of_lt (Nat.lt_of_lt_of_le Yl qr)
 have ge : w.heap.size + 1 ≠ qa := Nat.ne_of_lt (Nat.lt_of_lt_of_le Yn qr)
 have gf : w.heap.size + 1 + 1 ≠ qa := Nat.ne_of_lt (Nat.lt_of_lt_of_le Yp qr)
 have gg : w.heap.size + 1 + 1 + 1 ≠ qa := Nat.ne_of_lt (Nat.lt_of_lt_of_le Yr qr)
 have gh : w6.heap.size ≠ qa := Nat.ne_of_lt (Nat.lt_of_lt_of_le Yt qr)
 have gi : w8.heap.size ≠ qa := Nat.ne_of_lt (Nat.lt_of_lt_of_le Yv qr)
 have Vb : w.heap.size ≤ qa := Nat.le_trans hB9.size qr
 clear hG10 hA10
 try simp only [ue]
 clear ue
 simp only [List.drop_succ_cons, List.drop_zero]
 have hz10 := hb10.size
 (try simp only [sA, sB, sC, sD] at hz10)
 obtain ⟨b10, a10, n10, c10, e10, ht1, f10⟩ := ui
 simp only [e10]
 clear e10 uf ug uh f10
 have xh := (hb10.block (w.heap.size) (blk_lt' yt.out)).trans yt.out
 clear Qn Qo Yk yt
 obtain ⟨gj, gk, Xi, Vc⟩ := bk2 xh
 replace xh := Lib.hid xh
 have xi := (hb10.block (w.heap.size + 1) (blk_lt' yu.out)).trans yu.out
 clear Qp Qq Qr Ym yu
 obtain ⟨gl, gm, gn, Xj, Ve⟩ := bk3 xi
 replace xi := Lib.hid xi
 have xj := (hb10.block (w.heap.size + 1 + 1) (blk_lt' yv.out)).trans yv.out
 clear Qs Qt Qu Yo yv
 obtain ⟨gp, gr, gt, Xk, Vf⟩ := bk3 xj
 replace xj := Lib.hid xj
 have xk := (hb10.block (w.heap.size + 1 + 1 + 1) (blk_lt' yw.out)).trans yw.out
 clear Qv Qw Qx Yq yw
 obtain ⟨gu, gv, gy, Xl, Vg⟩ := bk3 xk
 replace xk := Lib.hid xk
 have xl := (hb10.block (w6.heap.size) (blk_lt' yx.out)).trans yx.out
 clear Qy Qz Ys yx
 obtain ⟨gz, ka, Xm, Vh⟩ := bk2 xl
 replace xl := Lib.hid xl
 have xm := (hb10.block (w8.heap.size) (blk_lt' yz.out)).trans yz.out
 clear wq ws Yu yz
 obtain ⟨kb, kc, Xn, Vi⟩ := bk2 xm
 replace xm := Lib.hid xm
 replace hm2 := hm2.below hb10
 replace hee := hee.below hb10
 have hB10 : Below w.heap.size w w10 := below_via hb10 (by assumption) (by first | exact hB9.size | go_size)
 go_upto_region 13 with fail
 replace xh := xh.out
 replace xi := xi.out
 replace xj := xj.out
 replace xk := xk.out
 replace xl := xl.out
 replace xm := xm.out
 refine chk (fun W => Below w.heap.size w W ∧ W.heap[w.heap.size]? = some (.cells #[.int .i64 A, .int .i64 B] 35 (0, 0)) ∧ W.heap[w.heap.size + 1]? = some (.cells #[.int .i64 x1, .int .i64 y1, .int .i64 e1] 45 (0, 0)) ∧ W.heap[w.heap.size + 1 + 1]? = some (.cells #[.int .i64 x2, .int .i64 y2, .int .i64 e2] 45 (0, 0)) ∧ W.heap[w.heap.size + 1 + 1 + 1]? = some (.cells #[.int .i64 0, .int .i64 0, .int .i64 0] 45 (0, 0)) ∧ W.heap[w6.heap.size]? = some (.cells #[.bool b6, .slice a6 n6 c6] 88 (0, 0)) ∧ W.heap[w8.heap.size]? = some (.cells #[.bool b8, .slice a8 n8 c8] 88 (0, 0)) ∧ W.heap[qa]? = some (.cells #[.bool b10, .slice a10 n10 c10] 88 (0, 0)) ∧ Wx W b6 a6 n6 c6 mm ∧ Wx W b8 a8 n8 c8 ee ∧ Wx W b10 a10 n10 c10 t1) (by refine ⟨?_, ?_, ?_, ?_, ?_, ?_, ?_, ?_, ?_, ?_, ?_⟩ <;> (exact ck)) ?_
 try clear hm2
 try clear hee
 try clear ht1
 clear gj gk Xi xh
 clear gl gm gn Xj xi
 clear gp gr gt Xk xj
 clear gu gv gy Xl xk
 clear gz ka Xm xl
 clear kb kc Xn xm
 clear hB10
 try clear Xg
 try clear Xh
 try clear va
 rintro w11 ⟨hB11, xp, xq, xr, xt, xu, xv, xw, hm2', hee', ht1'⟩
 obtain ⟨ke, kg, Xo, Vj⟩ := bk2 xp
 replace xp := Lib.hid xp
 obtain ⟨jm, jn, jo, Xp, Vk⟩ := bk3 xq
 replace xq := Lib.hid xq
 obtain ⟨jp, jq, jr, Xq, Vl⟩ := bk3 xr
 replace xr := Lib.hid xr
 obtain ⟨kh, ki, kj, Xr, Vm⟩ := bk3 xt
 replace xt := Lib.hid xt
 obtain ⟨vo, vp, Xs, Vo⟩ := bk2 xu
 replace xu := Lib.hid xu
 obtain ⟨kk, kl, Xt, Vp⟩ := bk2 xv
 replace xv := Lib.hid xv
 obtain ⟨vq, vr, Xu, Vq⟩ := bk2 xw
 replace xw := Lib.hid xw
 have hm2 := hm2'
 clear hm2'
 have hee := hee'
 clear hee'
 have ht1 := ht1'
 clear ht1'
 refine wp_open (n := 23) (by kernel_rfl) (by kernel_rfl) (by kernel_rfl) (by kernel_rfl) ?_
 simp only [List.take_succ_cons, List.take_zero]
 apply wpS_quiet
 ·intro γ W hW hp
  have hs := hW.size
  (try simp only [sA, sB, sC, sD] at hs)
  have qh := fun x => (xcA hW (qa) 0 (by first | omega | go_size) x).trans vq
  have qi := fun x => (xcA hW (qa) 1 (by first | omega | go_size) x).trans vr
  clear hW hp
  refine ⟨rfl, ?_⟩
  go_big_quiet_op
  first | exact rfl
 ·exact locS_const _
 try simp only [Act.put, List.setIfInBounds_toArray, List.set_cons_succ, List.set_cons_zero, Nat.reduceAdd]
 apply wpS_quiet
 ·intro γ W hW hp
  have hs := hW.size
  (try simp only [sA, sB, sC, sD] at hs)
  have qh := fun x => (xcA hW (w6.heap.size) 0 (by first | omega | go_size) x).trans vo
  have qi := fun x => (xcA hW (w6.heap.size) 1 (by first | omega | go_size) x).trans vp
  clear hW hp
  refine ⟨rfl, ?_⟩
  go_big_quiet_op
  first | exact rfl
 ·exact locS_const _
 try simp only [Act.put, List.setIfInBounds_toArray, List.set_cons_succ, List.set_cons_zero, Nat.reduceAdd]
 apply wpS_quiet
 ·intro γ W hW hp
  refine ⟨rfl, ?_⟩
  go_big_quiet_op
  first | exact rfl
 ·exact locS_const _
 try simp only [Act.put, List.setIfInBounds_toArray, List.set_cons_succ, List.set_cons_zero, Nat.reduceAdd]
 apply wpS_quiet
 ·intro γ W hW hp
  have hs := hW.size
  (try simp only [sA, sB, sC, sD] at hs)
  have qh := fun x => (xcA hW (w.heap.size + 1) 0 (by first | omega | go_size) x).trans jm
  have qi := fun x => (xcA hW (w.heap.size + 1) 1 (by first | omega | go_size) x).trans jn
  have jl := fun x => (xcA hW (w.heap.size + 1) 2 (by first | omega | go_size) x).trans jo
  clear hW hp
  refine ⟨rfl, ?_⟩
  go_big_quiet_op
  first | exact rfl
 ·exact locS_const _
 try simp only [Act.put, List.setIfInBounds_toArray, List.set_cons_succ, List.set_cons_zero, Nat.reduceAdd]
 apply wpS_quiet
 ·intro γ W hW hp
  refine ⟨rfl, ?_⟩
  go_big_quiet_op
  first | exact rfl
 ·exact locS_const _
 try simp only [Act.put, List.setIfInBounds_toArray, List.set_cons_succ, List.set_cons_zero, Nat.reduceAdd]
 apply wpS_quiet
 ·intro γ W hW hp
  have hs := hW.size
  (try simp only [sA, sB, sC, sD] at hs)
  have qh := fun x => (xcA hW (w.heap.size + 1 + 1) 0 (by first | omega | go_size) x).trans jp
  have qi := fun x => (xcA hW (w.heap.size + 1 + 1) 1 (by first | omega | go_size) x).trans jq
  have jl := fun x => (xcA hW (w.heap.size + 1 + 1) 2 (by first | omega | go_size) x).trans jr
  clear hW hp
  refine ⟨rfl, ?_⟩
  go_big_quiet_op
  first | exact rfl
 ·exact locS_const _
 try simp only [Act.put, List.setIfInBounds_toArray, List.set_cons_succ, List.set_cons_zero, Nat.reduceAdd]
 apply wpS_quiet
 ·intro γ W hW hp
  refine ⟨rfl, ?_⟩
  go_big_quiet_op
  first | exact rfl
 ·exact locS_const _
 try simp only [Act.put, List.setIfInBounds_toArray, List.set_cons_succ, List.set_cons_zero, Nat.reduceAdd]
 apply wpS_quiet
 ·intro γ W hW hp
  refine ⟨rfl, ?_⟩
  go_big_quiet_op
  first | exact rfl
 ·exact locS_const _
 try simp only [Act.put, List.setIfInBounds_toArray, List.set_cons_succ, List.set_cons_zero, Nat.reduceAdd]
 apply wpS_quiet
 ·intro γ W hW hp
  have hs := hW.size
  (try simp only [sA, sB, sC, sD] at hs)
  have qh := fun x => (xcA hW (w.heap.size + 1 + 1) 0 (by first | omega | go_size) x).trans jp
  have qi := fun x => (xcA hW (w.heap.size + 1 + 1) 1 (by first | omega | go_size) x).trans jq
  have jl := fun x => (xcA hW (w.heap.size + 1 + 1) 2 (by first | omega | go_size) x).trans jr
  clear hW hp
  refine ⟨rfl, ?_⟩
  go_big_quiet_op
  first | exact rfl
 ·exact locS_const _
 try simp only [Act.put, List.setIfInBounds_toArray, List.set_cons_succ, List.set_cons_zero, Nat.reduceAdd]
 apply wpS_quiet
 ·intro γ W hW hp
  refine ⟨rfl, ?_⟩
  go_big_quiet_op
  first | exact rfl
 ·exact locS_const _
 try simp only [Act.put, List.setIfInBounds_toArray, List.set_cons_succ, List.set_cons_zero, Nat.reduceAdd]
 apply wpS_quiet
 ·intro γ W hW hp
  refine ⟨rfl, ?_⟩
  go_big_quiet_op
  first | exact rfl
 ·exact locS_const _
 try simp only [Act.put, List.setIfInBounds_toArray, List.set_cons_succ, List.set_cons_zero, Nat.reduceAdd]
 apply wpS_quiet
 ·intro γ W hW hp
  have hs := hW.size
  (try simp only [sA, sB, sC, sD] at hs)
  have qh := fun x => (xcA hW (w.heap.size + 1 + 1) 0 (by first | omega | go_size) x).trans jp
  have qi := fun x => (xcA hW (w.heap.size + 1 + 1) 1 (by first | omega | go_size) x).trans jq
  have jl := fun x => (xcA hW (w.heap.size + 1 + 1) 2 (by first | omega | go_size) x).trans jr
  clear hW hp
  refine ⟨rfl, ?_⟩
  go_big_quiet_op
  first | exact rfl
 ·exact locS_const _
 try simp only [Act.put, List.setIfInBounds_toArray, List.set_cons_succ, List.set_cons_zero, Nat.reduceAdd]
 apply wpS_quiet
 ·intro γ W hW hp
  refine ⟨rfl, ?_⟩
  go_big_quiet_op
  first | exact rfl
 ·exact locS_const _
 try simp only [Act.put, List.setIfInBounds_toArray, List.set_cons_succ, List.set_cons_zero, Nat.reduceAdd]
 apply wpS_quiet
 ·intro γ W hW hp
  have hs := hW.size
  (try simp only [sA, sB, sC, sD] at hs)
  have qh := fun x => (xcA hW (w.heap.size + 1) 0 (by first | omega | go_size) x).trans jm
  have qi := fun x => (xcA hW (w.heap.size + 1) 1 (by first | omega | go_size) x).trans jn
  have jl := fun x => (xcA hW (w.heap.size + 1) 2 (by first | omega | go_size) x).trans jo
  clear hW hp
  refine ⟨rfl, ?_⟩
  go_big_quiet_op
  first | exact rfl
 ·exact locS_const _
 try simp only [Act.put, List.setIfInBounds_toArray, List.set_cons_succ, List.set_cons_zero, Nat.reduceAdd]
 apply wpS_quiet
 ·intro γ W hW hp
  refine ⟨rfl, ?_⟩
  go_big_quiet_op
  first | exact rfl
 ·exact locS_const _
 try simp only [Act.put, List.setIfInBounds_toArray, List.set_cons_succ, List.set_cons_zero, Nat.reduceAdd]
 apply wpS_quiet
 ·intro γ W hW hp
  refine ⟨rfl, ?_⟩
  go_big_quiet_op
  first | exact rfl
 ·exact locS_const _
 try simp only [Act.put, List.setIfInBounds_toArray, List.set_cons_succ, List.set_cons_zero, Nat.reduceAdd]
 apply wpS_quiet
 ·intro γ W hW hp
  have hs := hW.size
  (try simp only [sA, sB, sC, sD] at hs)
  have qh := fun x => (xcA hW (w.heap.size + 1) 0 (by first | omega | go_size) x).trans jm
  have qi := fun x => (xcA hW (w.heap.size + 1) 1 (by first | omega | go_size) x).trans jn
  have jl := fun x => (xcA hW (w.heap.size + 1) 2 (by first | omega | go_size) x).trans jo
  clear hW hp
  refine ⟨rfl, ?_⟩
  go_big_quiet_op
  first | exact rfl
 ·exact locS_const _
 try simp only [Act.put, List.setIfInBounds_toArray, List.set_cons_succ, List.set_cons_zero, Nat.reduceAdd]
 apply wpS_quiet
 ·intro γ W hW hp
  refine ⟨rfl, ?_⟩
  go_big_quiet_op
  first | exact rfl
 ·exact locS_const _
 try simp only [Act.put, List.setIfInBounds_toArray, List.set_cons_succ, List.set_cons_zero, Nat.reduceAdd]
 apply wpS_quiet
 ·intro γ W hW hp
  refine ⟨rfl, ?_⟩
  go_big_quiet_op
  first | exact rfl
 ·exact locS_const _
 try simp only [Act.put, List.setIfInBounds_toArray, List.set_cons_succ, List.set_cons_zero, Nat.reduceAdd]
 apply wpS_open (openW w.heap.size sm)
 ·intro γ W hW hp
  refine ⟨rfl, ?_⟩
  go_simp
  refine plainNew rfl ?_
  exact open_W (TU _) (by (have := hW.size; (try simp only [sA, sB, sC, sD] at this); omega))
 try simp only [Act.put, List.setIfInBounds_toArray, List.set_cons_succ, List.set_cons_zero, Nat.reduceAdd]
 apply wpS_open (openW w.heap.size t2)
 ·intro γ W hW hp
  have nc := hp _ (mR _) (by kernel_rfl)
  dsimp only at nc
  refine ⟨rfl, ?_⟩
  go_simp
  refine plainNew rfl ?_
  obtain ⟨b3, a3, n3, c3, e3, h3, _⟩ := nc
  rw [e3]
  exact open_W (mulWholes_eq (hm2.below hW) h3 HT2.out l3 l4) (by (have := hW.size; (try simp only [sA, sB, sC, sD] at this); omega))
 try simp only [Act.put, List.setIfInBounds_toArray, List.set_cons_succ, List.set_cons_zero, Nat.reduceAdd]
 apply wpS_open (openW w.heap.size (-t2))
 ·intro γ W hW hp
  have nd := hp _ (mR _) (by kernel_rfl)
  dsimp only at nd
  refine ⟨rfl, ?_⟩
  go_simp
  refine plainNew rfl ?_
  obtain ⟨b3, a3, n3, c3, e3, h3, _⟩ := nd
  rw [e3]
  exact open_W (negated_any _ _ _ _ _ _ h3 (by rw [h3.ln]; omega)) (by (have := hW.size; (try simp only [sA, sB, sC, sD] at this); omega))
 try simp only [Act.put, List.setIfInBounds_toArray, List.set_cons_succ, List.set_cons_zero, Nat.reduceAdd]
 apply wpS_open (openW w.heap.size t)
 ·intro γ W hW hp
  have nf := hp _ (mR _) (by kernel_rfl)
  dsimp only at nf
  refine ⟨rfl, ?_⟩
  go_simp
  refine plainNew rfl ?_
  obtain ⟨b3, a3, n3, c3, e3, h3, _⟩ := nf
  rw [e3]
  exact open_W (addWholes_eq (ht1.below hW) h3 HT.out l5 l6) (by (have := hW.size; (try simp only [sA, sB, sC, sD] at this); omega))
 try simp only [Act.put, List.setIfInBounds_toArray, List.set_cons_succ, List.set_cons_zero, Nat.reduceAdd]
 apply wpS_end
 intro γ w12 hb12 hG12 hA12
 have wt := hG12 _ (mL _ (mL _ (mL _ (mR _))))
 dsimp only at wt
 have wu := hG12 _ (mL _ (mL _ (mR _)))
 dsimp only at wu
 have wv := hG12 _ (mL _ (mR _))
 dsimp only at wv
 have ww := hG12 _ (mR _)
 dsimp only at ww
 clear hG12 hA12
 simp only [List.drop_succ_cons, List.drop_zero]
 have hz12 := hb12.size
 (try simp only [sA, sB, sC, sD] at hz12)
 obtain ⟨b12, a12, n12, c12, e12, htr, f12⟩ := ww
 simp only [e12]
 clear e12 wt wu wv f12
 have xx := (hb12.block (w.heap.size) (blk_lt' xp.out)).trans xp.out
 clear ke kg Xo xp
 obtain ⟨kr, ks, Xv, Vr⟩ := bk2 xx
 replace xx := Lib.hid xx
 have xy := (hb12.block (w.heap.size + 1) (blk_lt' xq.out)).trans xq.out
 clear jm jn jo Xp xq
 obtain ⟨kt, ku, kw, Xw, Vs⟩ := bk3 xy
 replace xy := Lib.hid xy
 have xz := (hb12.block (w.heap.size + 1 + 1) (blk_lt' xr.out)).trans xr.out
 clear jp jq jr Xq xr
 obtain ⟨kx, ky, kz, Xx, Vt⟩ := bk3 xz
 replace xz := Lib.hid xz
 have za := (hb12.block (w.heap.size + 1 + 1 + 1) (blk_lt' xt.out)).trans xt.out
 clear kh ki kj Xr xt
 obtain ⟨pa, pb, pc, Xy, Vu⟩ := bk3 za
 replace za := Lib.hid za
 have zb := (hb12.block (w6.heap.size) (blk_lt' xu.out)).trans xu.out
 clear vo vp Xs xu
 obtain ⟨pd, pe, Xz, Vv⟩ := bk2 zb
 replace zb := Lib.hid zb
 have zc := (hb12.block (w8.heap.size) (blk_lt' xv.out)).trans xv.out
 clear kk kl Xt xv
 obtain ⟨pf, pg, Za, Vw⟩ := bk2 zc
 replace zc := Lib.hid zc
 have zd := (hb12.block (qa) (blk_lt' xw.out)).trans xw.out
 clear vq vr Xu xw
 obtain ⟨ph, pi, Zb, Vx⟩ := bk2 zd
 replace zd := Lib.hid zd
 replace hm2 := hm2.below hb12
 replace hee := hee.below hb12
 replace ht1 := ht1.below hb12
 have hB12 : Below w.heap.size w w12 := below_via hb12 (by assumption) (by first | exact hB11.size | go_size)
 go_upto_region 14 with fail
 replace xx := xx.out
 replace xy := xy.out
 replace xz := xz.out
 replace za := za.out
 replace zb := zb.out
 replace zc := zc.out
 replace zd := zd.out
 refine chk (fun W => Below w.heap.size w W ∧ W.heap[w.heap.size]? = some (.cells #[.int .i64 A, .int .i64 B] 35 (0, 0)) ∧ W.heap[w.heap.size + 1]? = some (.cells #[.int .i64 x1, .int .i64 y1, .int .i64 e1] 45 (0, 0)) ∧ W.heap[w.heap.size + 1 + 1]? = some (.cells #[.int .i64 x2, .int .i64 y2, .int .i64 e2] 45 (0, 0)) ∧ W.heap[w.heap.size + 1 + 1 + 1]? = some (.cells #[.int .i64 0, .int .i64 0, .int .i64 0] 45 (0, 0)) ∧ W.heap[w6.heap.size]? = some (.cells #[.bool b6, .slice a6 n6 c6] 88 (0, 0)) ∧ W.heap[w8.heap.size]? = some (.cells #[.bool b8, .slice a8 n8 c8] 88 (0, 0)) ∧ W.heap[qa]? = some (.cells #[.bool b12, .slice a12 n12 c12] 88 (0, 0)) ∧ Wx W b6 a6 n6 c6 mm ∧ Wx W b8 a8 n8 c8 ee ∧ Wx W b12 a12 n12 c12 t) (by refine ⟨?_, ?_, ?_, ?_, ?_, ?_, ?_, ?_, ?_, ?_, ?_⟩ <;> (exact ck)) ?_
 try clear hm2
 try clear hee
 try clear htr
 clear kr ks Xv xx
 clear kt ku kw Xw xy
 clear kx ky kz Xx xz
 clear pa pb pc Xy za
 clear pd pe Xz zb
 clear pf pg Za zc
 clear ph pi Zb zd
 clear hB12
 rintro w13 ⟨hB13, ze, zf, zg, zh, zi, zj, zk, hm2', hee', htr'⟩
 obtain ⟨pj, pk, Zc, Vy⟩ := bk2 ze
 replace ze := Lib.hid ze
 obtain ⟨pn, po, pp, Zd, Vz⟩ := bk3 zf
 replace zf := Lib.hid zf
 obtain ⟨pq, pr, pt, Ze, Wa⟩ := bk3 zg
 replace zg := Lib.hid zg
 obtain ⟨pu, pv, pw, Zf, Wb⟩ := bk3 zh
 replace zh := Lib.hid zh
 obtain ⟨px, dc, Zg, Wc⟩ := bk2 zi
 replace zi := Lib.hid zi
 obtain ⟨dd, de, Zh, We⟩ := bk2 zj
 replace zj := Lib.hid zj
 obtain ⟨df, dg, Zi, Wf⟩ := bk2 zk
 replace zk := Lib.hid zk
 have hm2 := hm2'
 clear hm2'
 have hee := hee'
 clear hee'
 have htr := htr'
 clear htr'
 clear TN TU lm lnn lm5 ln5 wk1 wk2 wk3 wk4 wk5 wk6 wk7 q1 q2 q3 q4 q5 q6 l1 l4 l5 l6 HM2 HNN HT1 HT2 HT HE0 HS0
 go_upto_region 15 with (first | (have _t := tok16; go_at_call 78; refine (mulWholes_eq (hm2.below bel) (hee.below bel) HB.out l3 l2).mono ?_; rintro e w16 ⟨b16, a16, n16, c16, rfl, hbor, f16, hb16⟩; clear tok16 _t; have hz16 := hb16.size; (try simp only [sA, sB, sC, sD] at hz16)))
 have zl := (hb16.block (w.heap.size) (blk_lt' ze.out)).trans ze.out
 clear pj pk Zc ze
 obtain ⟨dh, di, Zj, Wg⟩ := bk2 zl
 replace zl := Lib.hid zl
 have zm := (hb16.block (w.heap.size + 1) (blk_lt' zf.out)).trans zf.out
 clear pn po pp Zd zf
 obtain ⟨dj, dk, dl, Zk, Wh⟩ := bk3 zm
 replace zm := Lib.hid zm
 have zn := (hb16.block (w.heap.size + 1 + 1) (blk_lt' zg.out)).trans zg.out
 clear pq pr pt Ze zg
 obtain ⟨dm, dn, dp, Zl, Wi⟩ := bk3 zn
 replace zn := Lib.hid zn
 have zo := (hb16.block (w.heap.size + 1 + 1 + 1) (blk_lt' zh.out)).trans zh.out
 clear pu pv pw Zf zh
 obtain ⟨dq, dr, dt, Zm, Wj⟩ := bk3 zo
 replace zo := Lib.hid zo
 have zp := (hb16.block (w6.heap.size) (blk_lt' zi.out)).trans zi.out
 clear px dc Zg zi
 obtain ⟨du, dv, Zn, Wk⟩ := bk2 zp
 replace zp := Lib.hid zp
 have zq := (hb16.block (w8.heap.size) (blk_lt' zj.out)).trans zj.out
 clear dd de Zh zj
 obtain ⟨dw, fc, Zo, Wl⟩ := bk2 zq
 replace zq := Lib.hid zq
 have zr := (hb16.block (qa) (blk_lt' zk.out)).trans zk.out
 clear df dg Zi zk
 obtain ⟨fe, ff, Zp, Wm⟩ := bk2 zr
 replace zr := Lib.hid zr
 replace hm2 := hm2.below hb16
 replace hee := hee.below hb16
 replace htr := htr.below hb16
 have hB16 : Below w.heap.size w w16 := below_via hb16 (by assumption) (by first | exact hB13.size | go_size)
 clear f16
 replace zl := zl.out
 replace zm := zm.out
 replace zn := zn.out
 replace zo := zo.out
 replace zp := zp.out
 replace zq := zq.out
 replace zr := zr.out
 refine chk (fun W => Below w.heap.size w W ∧ W.heap[w.heap.size]? = some (.cells #[.int .i64 A, .int .i64 B] 35 (0, 0)) ∧ W.heap[w.heap.size + 1]? = some (.cells #[.int .i64 x1, .int .i64 y1, .int .i64 e1] 45 (0, 0)) ∧ W.heap[w.heap.size + 1 + 1 + 1]? = some (.cells #[.int .i64 0, .int .i64 0, .int .i64 0] 45 (0, 0)) ∧ W.heap[qa]? = some (.cells #[.bool b12, .slice a12 n12 c12] 88 (0, 0)) ∧ W.heap[w16.heap.size]? = some (.cells #[.bool b16, .slice a16 n16 c16] 88 (0, 0)) ∧ Wx W b12 a12 n12 c12 t ∧ Wx W b16 a16 n16 c16 bo) (by refine ⟨?_, ?_, ?_, ?_, ?_, ?_, ?_, ?_⟩ <;> (exact ck)) ?_
 try clear htr
 try clear hbor
 clear dh di Zj zl
 clear dj dk dl Zk zm
 clear dm dn dp Zl zn
 clear dq dr dt Zm zo
 clear du dv Zn zp
 clear dw fc Zo zq
 clear fe ff Zp zr
 clear hB16
 rintro w17 ⟨hB17, zt, zu, zv, zw, zx, htr', hbor'⟩
 obtain ⟨fg, fi, Zq, Wo⟩ := bk2 zt
 replace zt := Lib.hid zt
 obtain ⟨fj, fm, fo, Zr, Wp⟩ := bk3 zu
 replace zu := Lib.hid zu
 obtain ⟨fp, fv, fw, Zs, Wq⟩ := bk3 zv
 replace zv := Lib.hid zv
 obtain ⟨fz, bc, Zt, Wr⟩ := bk2 zw
 replace zw := Lib.hid zw
 obtain ⟨bd, bf, Zu, Ws⟩ := bk2 zx
 replace zx := Lib.hid zx
 have htr := htr'
 clear htr'
 have hbor := hbor'
 clear hbor'
 have l7b : ln t ≤ 8000 := by omega
 have l7 : ln t ≤ 10000 := by omega
 have l8 : ln bo ≤ 9000 := by omega
 clear q7 q8 HB l2 l3
 go_wp2_with fail
 go_loopw [15] (fun ev wr => AdRel n m x1 e1 x2 e2 w17 ev wr) (fun ev _ => (21 - intOf ev).toNat)
 case atStart => exact ⟨0, rfl, by omega, fun e x h1 h2 => by omega, Below.refl _ _⟩
 case round =>
  obtain ⟨k, rfl, hk, hall, hb18⟩ := hrel
  obtain ⟨w18, rfl⟩ : ∃ v, v = wr := ⟨_, rfl⟩
  have HALL := Lib.hid hall
  clear hall
  have zy := (hb18.block (w.heap.size) (blk_lt' zt.out)).trans zt.out
  clear fg fi Zq zt
  obtain ⟨bg, bh, Zv, Wt⟩ := bk2 zy
  replace zy := Lib.hid zy
  have zz := (hb18.block (w.heap.size + 1) (blk_lt' zu.out)).trans zu.out
  clear fj fm fo Zr zu
  obtain ⟨bi, bj, bk, Zw, Wu⟩ := bk3 zz
  replace zz := Lib.hid zz
  have qp := (hb18.block (w.heap.size + 1 + 1 + 1) (blk_lt' zv.out)).trans zv.out
  clear fp fv fw Zs zv
  obtain ⟨vt, vu, vv, Zx, Wv⟩ := bk3 qp
  replace qp := Lib.hid qp
  have jc := (hb18.block (qa) (blk_lt' zw.out)).trans zw.out
  clear fz bc Zt zw
  obtain ⟨vw, vx, Zy, Ww⟩ := bk2 jc
  replace jc := Lib.hid jc
  have jd := (hb18.block (w16.heap.size) (blk_lt' zx.out)).trans zx.out
  clear bd bf Zu zx
  obtain ⟨vy, vz, Zz, Wy⟩ := bk2 jd
  replace jd := Lib.hid jd
  replace htr := htr.below hb18
  replace hbor := hbor.below hb18
  have hB18 : Below w.heap.size w w18 := below_via hb18 (by assumption) (by first | exact hB17.size | go_size)
  have hb17 := hb18
  by_cases hlt : k < 20
  ·obtain ⟨e, he0⟩ : ∃ e : Int, (k : Int) + 1 = e := ⟨_, rfl⟩
   rw [he0]
   have HE := Lib.hid he0
   have he : 1 ≤ e ∧ e ≤ 20 := by omega
   clear he0
   have ve := mul_bd (a := e) (b := e) (A := 20) (B := 20) (by omega) (by omega)
   have l9 : ln (t * (e * e)) ≤ 9000 := by
    have := ln_mul t (e * e)
    have := ln_small (a := e * e) (by omega) (by omega)
    omega
   go_upto_region 18 with fail
   refine wp_open (n := 11) (by kernel_rfl) (by kernel_rfl) (by kernel_rfl) (by kernel_rfl) ?_
   simp only [List.take_succ_cons, List.take_zero]
   apply wpS_quiet
   ·intro γ W hW hp
    have hs := hW.size
    (try simp only [sA, sB, sC, sD] at hs)
    have qh := fun x => (xcA hW (qa) 0 (by first | omega | go_size) x).trans vw
    have qi := fun x => (xcA hW (qa) 1 (by first | omega | go_size) x).trans vx
    clear hW hp
    refine ⟨rfl, ?_⟩
    go_big_quiet_op
    first | exact rfl
   ·exact locS_const _
   try simp only [Act.put, List.setIfInBounds_toArray, List.set_cons_succ, List.set_cons_zero, Nat.reduceAdd]
   apply wpS_quiet
   ·intro γ W hW hp
    refine ⟨rfl, ?_⟩
    go_big_quiet_op
    first | exact rfl
   ·exact locS_const _
   try simp only [Act.put, List.setIfInBounds_toArray, List.set_cons_succ, List.set_cons_zero, Nat.reduceAdd]
   apply wpS_quiet
   ·intro γ W hW hp
    refine ⟨rfl, ?_⟩
    go_big_quiet_op
    first | exact rfl
   ·exact locS_const _
   try simp only [Act.put, List.setIfInBounds_toArray, List.set_cons_succ, List.set_cons_zero, Nat.reduceAdd]
   apply wpS_quiet
   ·intro γ W hW hp
    refine ⟨rfl, ?_⟩
    go_big_quiet_op
    first | exact rfl
   ·exact locS_const _
   try simp only [Act.put, List.setIfInBounds_toArray, List.set_cons_succ, List.set_cons_zero, Nat.reduceAdd]
   apply wpS_open (openW w.heap.size (t * (e * e)))
   ·intro γ W hW hp
    refine ⟨rfl, ?_⟩
    go_simp
    refine plainNew rfl ?_
    exact open_W (timesInt_eq (htr.below hW) rfl l7 (by omega) (by omega)) (by (have := hW.size; (try simp only [sA, sB, sC, sD] at this); omega))
   try simp only [Act.put, List.setIfInBounds_toArray, List.set_cons_succ, List.set_cons_zero, Nat.reduceAdd]
   apply wpS_quiet
   ·intro γ W hW hp
    have hs := hW.size
    (try simp only [sA, sB, sC, sD] at hs)
    have qh := fun x => (xcA hW (w16.heap.size) 0 (by first | omega | go_size) x).trans vy
    have qi := fun x => (xcA hW (w16.heap.size) 1 (by first | omega | go_size) x).trans vz
    clear hW hp
    refine ⟨rfl, ?_⟩
    go_big_quiet_op
    first | exact rfl
   ·exact locS_const _
   try simp only [Act.put, List.setIfInBounds_toArray, List.set_cons_succ, List.set_cons_zero, Nat.reduceAdd]
   apply wpS_open (openSQ (t * (e * e)) bo)
   ·intro γ W hW hp
    have vn := hp _ (mR _) (by kernel_rfl)
    dsimp only at vn
    refine ⟨rfl, ?_⟩
    go_simp
    refine plainNew rfl ?_
    obtain ⟨b3, a3, n3, c3, e3, h3, _⟩ := vn
    rw [e3]
    exact open_SQ (smallQuotient_any h3 (hbor.below hW) l9 l8 HBP.out)
   try simp only [Act.put, List.setIfInBounds_toArray, List.set_cons_succ, List.set_cons_zero, Nat.reduceAdd]
   apply wpS_quiet
   ·intro γ W hW hp
    have jt := hp _ (mR _) (by kernel_rfl)
    dsimp only at jt
    refine ⟨rfl, ?_⟩
    go_big_quiet_op
    first | exact rfl
   ·intro γ k g hk
    have wd : updV γ k g 6 = γ 6 := updV_other γ g (fun e => by subst e; exact absurd hk (by rw [show reachB .any _ 100 7 6 = true from by kernel_rfl]; simp))
    first | rfl | simp only [wd]
   try simp only [Act.put, List.setIfInBounds_toArray, List.set_cons_succ, List.set_cons_zero, Nat.reduceAdd]
   apply wpS_quiet (v := fun γ => tupAt (γ 6) 0)
   ·intro γ W hW hp
    have jt := hp _ (mR _) (by kernel_rfl)
    dsimp only at jt
    obtain ⟨uA, bA, eA, -⟩ := jt
    refine ⟨rfl, ?_⟩
    simp only [eA]
    go_big_quiet_op
    first | exact rfl | simp [tupAt, eA]
   ·intro γ k g hk
    have wd : updV γ k g 6 = γ 6 := updV_other γ g (fun e => by subst e; exact absurd hk (by rw [show reachB .any _ 100 8 6 = true from by kernel_rfl]; simp))
    simp only [wd]
   try simp only [Act.put, List.setIfInBounds_toArray, List.set_cons_succ, List.set_cons_zero, Nat.reduceAdd]
   apply wpS_quiet (v := fun γ => tupAt (γ 6) 1)
   ·intro γ W hW hp
    have jt := hp _ (mR _) (by kernel_rfl)
    dsimp only at jt
    obtain ⟨uA, bA, eA, -⟩ := jt
    refine ⟨rfl, ?_⟩
    simp only [eA]
    go_big_quiet_op
    first | exact rfl | simp [tupAt, eA]
   ·intro γ k g hk
    have wd : updV γ k g 6 = γ 6 := updV_other γ g (fun e => by subst e; exact absurd hk (by rw [show reachB .any _ 100 9 6 = true from by kernel_rfl]; simp))
    simp only [wd]
   try simp only [Act.put, List.setIfInBounds_toArray, List.set_cons_succ, List.set_cons_zero, Nat.reduceAdd]
   apply wpS_quiet
   ·intro γ W hW hp
    have jt := hp _ (mR _) (by kernel_rfl)
    dsimp only at jt
    refine ⟨rfl, ?_⟩
    go_big_quiet_op
    first | exact rfl
   ·intro γ k g hk
    have wd : updV γ k g 6 = γ 6 := updV_other γ g (fun e => by subst e; exact absurd hk (by rw [show reachB .any _ 100 10 6 = true from by kernel_rfl]; simp))
    first | rfl | simp only [wd]
   try simp only [Act.put, List.setIfInBounds_toArray, List.set_cons_succ, List.set_cons_zero, Nat.reduceAdd]
   apply wpS_end
   intro γ w19 hb19 hG19 hA19
   have uj := hG19 _ (mL _ (mR _))
   dsimp only at uj
   have uk := hG19 _ (mR _)
   dsimp only at uk
   clear hG19 hA19
   simp only [List.drop_succ_cons, List.drop_zero]
   have hz19 := hb19.size
   (try simp only [sA, sB, sC, sD] at hz19)
   obtain ⟨lo, bq, e19, hbq, lo1, lo2, huq⟩ := uk
   simp only [e19, tupAt0, tupAt1]
   clear e19 uj l9
   have je := (hb19.block (w.heap.size) (blk_lt' zy.out)).trans zy.out
   clear bg bh Zv zy
   obtain ⟨bm, bn, Ja, Wz⟩ := bk2 je
   replace je := Lib.hid je
   have jf := (hb19.block (w.heap.size + 1) (blk_lt' zz.out)).trans zz.out
   clear bi bj bk Zw zz
   obtain ⟨bp, br, bs, Jb, Ua⟩ := bk3 jf
   replace jf := Lib.hid jf
   have jg := (hb19.block (w.heap.size + 1 + 1 + 1) (blk_lt' qp.out)).trans qp.out
   clear vt vu vv Zx qp
   obtain ⟨bt, bu, bx, Jc, Ub⟩ := bk3 jg
   replace jg := Lib.hid jg
   have jh := (hb19.block (qa) (blk_lt' jc.out)).trans jc.out
   clear vw vx Zy jc
   obtain ⟨bz, cd, Jd, Uc⟩ := bk2 jh
   replace jh := Lib.hid jh
   have ji := (hb19.block (w16.heap.size) (blk_lt' jd.out)).trans jd.out
   clear vy vz Zz jd
   obtain ⟨ce, cf, Je, Ud⟩ := bk2 ji
   replace ji := Lib.hid ji
   replace htr := htr.below hb19
   replace hbor := hbor.below hb19
   have hB19 : Below w.heap.size w w19 := below_via hb19 (by assumption) (by first | exact hB18.size | go_size)
   have HUQ := Lib.hid huq
   have HBQ := Lib.hid hbq
   clear huq hbq
   by_cases hyes : bq = true ∧ Int.gcd lo e = 1
   ·obtain ⟨rfl, hgc⟩ := hyes
    have ht := (HX.out e lo).1 (by have := HBQ.out; simpa using this.symm)
    obtain ⟨y3, hy3, hv⟩ := HS.out e lo he.1 ht
    have hbm := HTB.out e lo he ⟨lo1, lo2⟩ ht
    have hR := HL.out (lo, y3, e, true) (Or.inl ⟨lo, y3, e, rfl, he, ⟨lo1, lo2⟩, hgc, ht, hy3⟩)
    have hv2 := evV_bd hA hB ⟨lo1, lo2⟩ (e := e) (by omega)
    have hy3b := root_bd hv (by omega)
    have TCV := fun W : World => Lib.hid (curveValue_any A B lo e W hA hB ⟨lo1, lo2⟩ (by omega))
    rw [← hv] at TCV hv2
    have TER := fun W : World => Lib.hid (exactRoot_any (y3 * y3) W (by omega) (by omega))
    rw [exR_sq] at TER
    have TGX := fun W : World => Lib.hid (gcd_any lo e W (by omega) (by omega) (by omega) (by omega))
    rw [show gcdI lo e = 1 by unfold gcdI; omega] at TGX
    have hside := side_sign he.1 he1.1 hmz hy3
    rw [← imp_sd] at hside
    have HSIDE := Lib.hid hside
    clear hside
    have hm8 : -8000 ≤ m ∧ m ≤ 8000 := hbm.1
    have hn8 := bd8 hbm.1 hbm.2
    clear hbm hm hn
    subst hR
    have hr := absI_nonneg y3
    have hr2 : absI y3 ≤ 3000000 := absI_le hy3b.1 hy3b.2
    clear hy3b
    clear ht hy3 hgc hv HL HS HTB HALL HX HUQ HBQ hv2 hA hB hx2 hy2 he2 l7 l7b l8 hb17 HE
    generalize absI y3 = r at *
    generalize y3 * y3 = yy at *
    have u1 := mul_bd (a := x1) (b := e) (A := 10000) (B := 20) (by omega) (by omega)
    have u2 := mul_bd (a := x1*e) (b := e) (A := 200000) (B := 20) (by omega) (by omega)
    have u3 := mul_bd (a := lo) (b := e1) (A := 10000) (B := 20) (by omega) (by omega)
    have u4 := mul_bd (a := lo*e1) (b := e1) (A := 200000) (B := 20) (by omega) (by omega)
    have u5 := mul_bd (a := n) (b := x1*e*e - lo*e1*e1) (A := 1600000) (B := 8000000) (by omega) (by omega)
    have u6 := mul_bd (a := n*(x1*e*e - lo*e1*e1)) (b := e1) (A := 12800000000000) (B := 20) (by omega) (by omega)
    have u7 := mul_bd (a := y1) (b := m) (A := 3000000) (B := 8000) (by omega) (by omega)
    have u8 := mul_bd (a := y1*m) (b := e) (A := 24000000000) (B := 20) (by omega) (by omega)
    have u9 := mul_bd (a := y1*m*e) (b := e) (A := 480000000000) (B := 20) (by omega) (by omega)
    go_upto_region 20 with (first | (go_at_call 56; (with_reducible refine ((TGX _).out).mono ?_); rintro e w' ⟨rfl, nq, rfl⟩))
    go_upto_region 21 with (first | (have _t := tok21; go_at_call 75; (with_reducible refine ((TCV _).out).mono ?_); rintro e w21 ⟨rfl, hb21⟩; clear tok21 _t; have hz21 := hb21.size; (try simp only [sA, sB, sC, sD] at hz21)) | (go_at_call 84; (with_reducible refine ((TER _).out).mono ?_); rintro e w' ⟨rfl, rfl⟩))
    replace hb21 := below_via hb21 (below_drewN (Below.refl _ w19) _) (Nat.le_refl _)
    have vb := (hb21.block (w.heap.size) (blk_lt' je.out)).trans je.out
    clear bm bn Ja je
    obtain ⟨cg, ch, Jf, Ue⟩ := bk2 vb
    replace vb := Lib.hid vb
    have jj := (hb21.block (w.heap.size + 1) (blk_lt' jf.out)).trans jf.out
    clear bp br bs Jb jf
    obtain ⟨ci, cj, cl, Jg, Uf⟩ := bk3 jj
    replace jj := Lib.hid jj
    have jk := (hb21.block (w.heap.size + 1 + 1 + 1) (blk_lt' jg.out)).trans jg.out
    clear bt bu bx Jc jg
    obtain ⟨cn, co, cp, Jh, Ug⟩ := bk3 jk
    replace jk := Lib.hid jk
    have vc := (hb21.block (qa) (blk_lt' jh.out)).trans jh.out
    clear bz cd Jd jh
    obtain ⟨cq, cr, Ji, Uh⟩ := bk2 vc
    replace vc := Lib.hid vc
    have vd := (hb21.block (w16.heap.size) (blk_lt' ji.out)).trans ji.out
    clear ce cf Je ji
    obtain ⟨ct, cu, Jj, Ui⟩ := bk2 vd
    replace vd := Lib.hid vd
    replace htr := htr.below hb21
    replace hbor := hbor.below hb21
    have hB21 : Below w.heap.size w w21 := below_via hb21 (by assumption) (by first | exact hB19.size | go_size)
    clear cg
    clear ch
    clear Jf vb
    clear cq
    clear cr
    clear Ji vc
    clear ct
    clear cu
    clear Jj vd
    try clear gd
    try clear ge
    try clear gf
    try clear gg
    try clear gh
    try clear gi
    go_upto_region 23 with fail
    replace jj := jj.out
    replace jk := jk.out
    refine chk (fun W => Below w.heap.size w W ∧ W.heap[w.heap.size + 1 + 1 + 1]? = some (.cells #[.int .i64 0, .int .i64 0, .int .i64 0] 45 (0, 0))) (by refine ⟨?_, ?_⟩ <;> (exact ck)) ?_
    clear ci cj cl Jg jj
    clear cn co cp Jh jk
    clear hB21
    rintro w22 ⟨hB22, qq⟩
    obtain ⟨ju, jv, jw, Uj, Uk⟩ := bk3 qq
    replace qq := Lib.hid qq
    clear u1 u2 u3 u4
    by_cases hs : n*(x1*e*e - lo*e1*e1)*e1 - y1*m*e*e < 0
    ·by_cases hm0 : m < 0
     ·obtain rfl : y3 = r := by rcases HSIDE.out with ⟨h1, h2⟩ | ⟨h1, h2⟩; exact h2; exact absurd ⟨fun _ => hm0, fun _ => hs⟩ h1
      clear HSIDE
      go_upto_region 25 with fail
      iterate 40 (first | (with_reducible show bodyPost _ _ _ _ _ _) | (with_reducible refine wp_ret ?_) | go_values | go_skip | go_guarded | go_step | go_upon | go_back | skip)
      refine bodyPost_ret (v := .tuple #[.agg #[.int .i64 lo, .int .i64 y3, .int .i64 e], .bool true]) (by simp [results, Tryz.results52, go_sem, ju, jv, jw]) rfl ⟨rfl, ?_⟩
      have HO := qq.out
      (exact ck)
     ·obtain rfl : y3 = -r := by rcases HSIDE.out with ⟨h1, h2⟩ | ⟨h1, h2⟩; exact absurd (h1.1 hs) hm0; exact h2
      clear HSIDE
      go_upto_region 25 with fail
      iterate 40 (first | (with_reducible show bodyPost _ _ _ _ _ _) | (with_reducible refine wp_ret ?_) | go_values | go_skip | go_guarded | go_step | go_upon | go_back | skip)
      refine bodyPost_ret (v := .tuple #[.agg #[.int .i64 lo, .int .i64 (-r), .int .i64 e], .bool true]) (by simp [results, Tryz.results52, go_sem, ju, jv, jw]) rfl ⟨rfl, ?_⟩
      have HO := qq.out
      (exact ck)
    ·by_cases hm0 : m < 0
     ·obtain rfl : y3 = -r := by rcases HSIDE.out with ⟨h1, h2⟩ | ⟨h1, h2⟩; exact absurd (h1.2 hm0) hs; exact h2
      clear HSIDE
      go_upto_region 25 with fail
      iterate 40 (first | (with_reducible show bodyPost _ _ _ _ _ _) | (with_reducible refine wp_ret ?_) | go_values | go_skip | go_guarded | go_step | go_upon | go_back | skip)
      refine bodyPost_ret (v := .tuple #[.agg #[.int .i64 lo, .int .i64 (-r), .int .i64 e], .bool true]) (by simp [results, Tryz.results52, go_sem, ju, jv, jw]) rfl ⟨rfl, ?_⟩
      have HO := qq.out
      (exact ck)
     ·obtain rfl : y3 = r := by rcases HSIDE.out with ⟨h1, h2⟩ | ⟨h1, h2⟩; exact h2; exact absurd ⟨fun h => absurd h hs, fun h => absurd h hm0⟩ h1
      clear HSIDE
      go_upto_region 25 with fail
      iterate 40 (first | (with_reducible show bodyPost _ _ _ _ _ _) | (with_reducible refine wp_ret ?_) | go_values | go_skip | go_guarded | go_step | go_upon | go_back | skip)
      refine bodyPost_ret (v := .tuple #[.agg #[.int .i64 lo, .int .i64 y3, .int .i64 e], .bool true]) (by simp [results, Tryz.results52, go_sem, ju, jv, jw]) rfl ⟨rfl, ?_⟩
      have HO := qq.out
      (exact ck)
   ·have HALL2 := Lib.hid (show ∀ e x : Int, 1 ≤ e → e ≤ (k + 1 : Nat) → -10000 ≤ x → x ≤ 10000 → Int.gcd x e = 1 → ¬ thX n m x1 e1 x2 e2 e x from fun f x h1 h2 h3 h4 h5 h6 => by
     have hke := HE.out
     by_cases hf : f ≤ k
     ·exact HALL.out f x h1 hf h3 h4 h5 h6
     ·obtain rfl : f = e := by omega
      have h7 := (HX.out f x).2 h6
      obtain rfl := HUQ.out x h3 h4 h7
      exact hyes ⟨by rw [HBQ.out]; simpa using h7, h5⟩)
    cases bq
    ·clear hyes
     go_upto_region 17 with (first | (go_at_call 56; (with_reducible refine ((TGX _).out).mono ?_); rintro e w' ⟨rfl, nq, rfl⟩))
     go_wp2_with fail
     go_roundw
     case rel => exact ⟨k + 1, by have := HE.out; rw [show e + 1 = ((k + 1 : Nat) : Int) + 1 by omega], by omega, HALL2.out, below_via hb19 hb17 hb17.size⟩
     case measure => simp [intOf]; omega
    ·have hgq : gcdI lo e ≠ 1 := fun h => hyes ⟨rfl, by unfold gcdI at h; omega⟩
     have TGX := fun W : World => Lib.hid (gcd_any lo e W (by omega) (by omega) (by omega) (by omega))
     generalize gcdI lo e = gq at *
     have hgq' : (gq != 1) = true := by simpa using hgq
     clear hyes
     go_upto_region 17 with (first | (go_at_call 56; (with_reducible refine ((TGX _).out).mono ?_); rintro e w' ⟨rfl, nq, rfl⟩))
     go_wp2_with fail
     go_roundw
     case rel => exact ⟨k + 1, by have := HE.out; rw [show e + 1 = ((k + 1 : Nat) : Int) + 1 by omega], by omega, HALL2.out, below_drewN (below_via hb19 hb17 hb17.size) _⟩
     case measure => simp [intOf]; omega
  ·obtain rfl : k = 20 := by omega
   have hR := HL.out (0, 0, 0, false) (Or.inr ⟨rfl, fun e x he hx hg ht => HALL.out e x he.1 (by omega) hx.1 hx.2 hg ht⟩)
   subst hR
   go_upto_region 26 with fail
   iterate 40 (first | (with_reducible show bodyPost _ _ _ _ _ _) | (with_reducible refine wp_ret ?_) | go_values | go_skip | go_guarded | go_step | go_upon | go_back | skip)
   refine bodyPost_ret (v := .tuple #[.agg #[.int .i64 0, .int .i64 0, .int .i64 0], .bool false]) (by simp [results, Tryz.results52, go_sem, vt, vu, vv]) rfl ⟨rfl, ?_⟩
   have HO := qp.out
   (exact ck)
end Go.Proofs.YtnemnkbcbokafaaGreat
