/- Lemmas and contracts of functions. No condition. -/
import Derived.Test.YtnkmgpmehkholaaGreatPq13
import Derived.Test.YtnkmgpmehkholaaGreatPq29
namespace Go.Proofs.YtnkmgpmehkholaaGreat
open Go.RowKit
set_option linter.unusedVariables false
set_option maxHeartbeats 1000000
set_option maxRecDepth 20000
set_option linter.unusedSimpArgs false
attribute [local go_sem] openAt openUpon
theorem numeratorOf_eq {A B x z t : Int} {b b2 : Bool} {a a2 : Option Addr} {n c n2 c2 : Nat} {w : World} (hA : -1000 ≤ A ∧ A ≤ 1000) (hBB : -10000 ≤ B ∧ B ≤ 10000) (hx : Wx w b a n c x) (hz : Wx w b2 a2 n2 c2 z) (lx' : ln x ≤ 80) (lz' : ln z ≤ 80) (et : topZ A B x z = t) :
  Calls Tryz.prog 124 #[.agg #[.int .i64 A, .int .i64 B], .agg #[.bool b, .slice a n c, .bool b2, .slice a2 n2 c2]] w (NewW w t) := by
 obtain ⟨u1, hu1⟩ : ∃ v, -2 * A = v := ⟨_, rfl⟩
 obtain ⟨u2, hu2⟩ : ∃ v, -8 * B = v := ⟨_, rfl⟩
 obtain ⟨u3, hu3⟩ : ∃ v, A * A = v := ⟨_, rfl⟩
 obtain ⟨p1, hp1⟩ : ∃ v, prodZ [x, x, x, x] 4 = v := ⟨_, rfl⟩
 obtain ⟨p2, hp2⟩ : ∃ v, prodZ [u1, x, x, z, z] 5 = v := ⟨_, rfl⟩
 obtain ⟨p3, hp3⟩ : ∃ v, prodZ [u2, x, z, z, z] 5 = v := ⟨_, rfl⟩
 obtain ⟨p4, hp4⟩ : ∃ v, prodZ [u3, z, z, z, z] 5 = v := ⟨_, rfl⟩
 have RT := Lib.hid (show sumZ [p1, p2, p3, p4] 4 = t by
  rw [← et, ← top_impl]; subst hu1 hu2 hu3 hp1 hp2 hp3 hp4; rfl)
 have hAA := mul_bd (a := A) (b := A) (A := 1000) (B := 1000) (by omega) (by omega)
 have lx : ln x ≤ 1500 := by omega
 have lz : ln z ≤ 1500 := by omega
 have g1 := ln_small (a := -2 * A) (by omega) (by omega)
 have g2 := ln_small (a := -8 * B) (by omega) (by omega)
 have g3 := ln_small (a := A * A) (by omega) (by omega)
 have mu1 : ln u1 ≤ 1500 := by rw [← hu1]; omega
 have mu2 : ln u2 ≤ 1500 := by rw [← hu2]; omega
 have mu3 : ln u3 ≤ 1500 := by rw [← hu3]; omega
 have nu1 : ln u1 ≤ 80 := by rw [← hu1]; omega
 have nu2 : ln u2 ≤ 80 := by rw [← hu2]; omega
 have nu3 : ln u3 ≤ 80 := by rw [← hu3]; omega
 have mp1 : ln p1 ≤ 1500 := by rw [← hp1]; exact Nat.le_trans (prodZ_ln (all4 lx' lx' lx' lx') 4) (by simp)
 have mp2 : ln p2 ≤ 1500 := by rw [← hp2]; exact Nat.le_trans (prodZ_ln (all5 nu1 lx' lx' lz' lz') 5) (by simp)
 have mp3 : ln p3 ≤ 1500 := by rw [← hp3]; exact Nat.le_trans (prodZ_ln (all5 nu2 lx' lz' lz' lz') 5) (by simp)
 have mp4 : ln p4 ≤ 1500 := by rw [← hp4]; exact Nat.le_trans (prodZ_ln (all5 nu3 lz' lz' lz' lz') 5) (by simp)
 have U1 := Lib.hid hu1; have U2 := Lib.hid hu2; have U3 := Lib.hid hu3; have P1 := Lib.hid hp1; have P2 := Lib.hid hp2; have P3 := Lib.hid hp3; have P4 := Lib.hid hp4
 clear hu1 hu2 hu3 hp1 hp2 hp3 hp4 et g1 g2 g3 nu1 nu2 nu3 lx' lz'
 go_enter Tryz.func124, Tryz.ntmps124
 go_wp2_with fail
 refine chk (fun W => Below w.heap.size w W ∧ W.heap[w.heap.size]? = some (.cells #[.int .i64 A, .int .i64 B] 32 (0, 0)) ∧ W.heap[w.heap.size + 1]? = some (.cells #[.bool b, .slice a n c, .bool b2, .slice a2 n2 c2] 107 (0, 0)) ∧ W.heap[w.heap.size + 1 + 1]? = some (.cells #[.bool false, .slice none 0 0] 80 (0, 0)) ∧ Wx W b a n c x ∧ Wx W b2 a2 n2 c2 z) (by refine ⟨?_, ?_, ?_, ?_, ?_, ?_⟩ <;> (exact ck)) ?_
 try clear hx
 try clear hz
 rintro w1 ⟨hB1, qm, qn, qo, hx', hz'⟩
 obtain ⟨qx, qy, xk, jk⟩ := bk2 qm
 replace qm := Lib.hid qm
 obtain ⟨qz, xc, xd, xe, xl, jl⟩ := bk4 qn
 replace qn := Lib.hid qn
 obtain ⟨xf, xg, xm, jm⟩ := bk2 qo
 replace qo := Lib.hid qo
 have hx := hx'
 clear hx'
 have hz := hz'
 clear hz'
 go_region
 go_wp2_with fail
 replace qm := qm.out
 replace qn := qn.out
 replace qo := qo.out
 refine chk (fun W => Below w.heap.size w W ∧ W.heap[w.heap.size]? = some (.cells #[.int .i64 A, .int .i64 B] 32 (0, 0)) ∧ W.heap[w.heap.size + 1 + 1]? = some (.cells #[.bool false, .slice none 0 0] 80 (0, 0)) ∧ W.heap[w1.heap.size]? = some (.cells #[.bool b, .slice a n c] 80 (0, 0)) ∧ W.heap[w1.heap.size + 1]? = some (.cells #[.bool b2, .slice a2 n2 c2] 80 (0, 0)) ∧ Wx W b a n c x ∧ Wx W b2 a2 n2 c2 z) (by refine ⟨?_, ?_, ?_, ?_, ?_, ?_, ?_⟩ <;> (exact ck)) ?_
 try clear hx
 try clear hz
 clear qx qy xk qm
 clear qz xc xd xe xl qn
 clear xf xg xm qo
 clear hB1
 rintro w3 ⟨hB3, qi, qj, qk, ql, hx', hz'⟩
 obtain ⟨qq, qr, xn, ja⟩ := bk2 qi
 replace qi := Lib.hid qi
 obtain ⟨xh, xi, xo, jb⟩ := bk2 qj
 replace qj := Lib.hid qj
 obtain ⟨qg, qh, xp, jc⟩ := bk2 qk
 replace qk := Lib.hid qk
 obtain ⟨qc, qd, xq, jd⟩ := bk2 ql
 replace ql := Lib.hid ql
 have hx := hx'
 clear hx'
 have hz := hz'
 clear hz'
 generalize w1.heap.size + 1 = gz at *
 generalize w1.heap.size = gx at *
 clear w1
 rotate_left
 go_wp2_with fail
 replace qm := qm.out
 replace qn := qn.out
 replace qo := qo.out
 refine chk (fun W => Below w.heap.size w W ∧ W.heap[w.heap.size]? = some (.cells #[.int .i64 A, .int .i64 B] 32 (0, 0)) ∧ W.heap[w.heap.size + 1 + 1]? = some (.cells #[.bool false, .slice none 0 0] 80 (0, 0)) ∧ W.heap[w1.heap.size + 1]? = some (.cells #[.bool b, .slice a n c] 80 (0, 0)) ∧ W.heap[w1.heap.size]? = some (.cells #[.bool b2, .slice a2 n2 c2] 80 (0, 0)) ∧ Wx W b a n c x ∧ Wx W b2 a2 n2 c2 z) (by refine ⟨?_, ?_, ?_, ?_, ?_, ?_, ?_⟩ <;> (exact ck)) ?_
 try clear hx
 try clear hz
 clear qx qy xk qm
 clear qz xc xd xe xl qn
 clear xf xg xm qo
 clear hB1
 rintro w3 ⟨hB3, qi, qj, qk, ql, hx', hz'⟩
 obtain ⟨qq, qr, xn, ja⟩ := bk2 qi
 replace qi := Lib.hid qi
 obtain ⟨xh, xi, xo, jb⟩ := bk2 qj
 replace qj := Lib.hid qj
 obtain ⟨qg, qh, xp, jc⟩ := bk2 qk
 replace qk := Lib.hid qk
 obtain ⟨qc, qd, xq, jd⟩ := bk2 ql
 replace ql := Lib.hid ql
 have hx := hx'
 clear hx'
 have hz := hz'
 clear hz'
 generalize w1.heap.size + 1 = gx at *
 generalize w1.heap.size = gz at *
 clear w1
 all_goals
  refine wp_open (n := 40) (by kernel_rfl) (by kernel_rfl) (by kernel_rfl) (by kernel_rfl) ?_
  simp only [List.take_succ_cons, List.take_zero]
  apply wpS_quiet
  ·intro γ W hW hp
   have hs := hW.size
   (try simp only [sA, sB, sC, sD] at hs)
   have qe := fun x => (xcA hW (gx) 0 (by first | omega | go_size) x).trans qg
   have qf := fun x => (xcA hW (gx) 1 (by first | omega | go_size) x).trans qh
   clear hW hp
   refine ⟨rfl, ?_⟩
   go_big_quiet_op
   first | exact rfl
  ·exact locS_const _
  try simp only [Act.put, List.setIfInBounds_toArray, List.set_cons_succ, List.set_cons_zero, Nat.reduceAdd]
  apply wpS_quiet
  ·intro γ W hW hp
   have hs := hW.size
   (try simp only [sA, sB, sC, sD] at hs)
   have qe := fun x => (xcA hW (gx) 0 (by first | omega | go_size) x).trans qg
   have qf := fun x => (xcA hW (gx) 1 (by first | omega | go_size) x).trans qh
   clear hW hp
   refine ⟨rfl, ?_⟩
   go_big_quiet_op
   first | exact rfl
  ·exact locS_const _
  try simp only [Act.put, List.setIfInBounds_toArray, List.set_cons_succ, List.set_cons_zero, Nat.reduceAdd]
  apply wpS_quiet
  ·intro γ W hW hp
   have hs := hW.size
   (try simp only [sA, sB, sC, sD] at hs)
   have qe := fun x => (xcA hW (gx) 0 (by first | omega | go_size) x).trans qg
   have qf := fun x => (xcA hW (gx) 1 (by first | omega | go_size) x).trans qh
   clear hW hp
   refine ⟨rfl, ?_⟩
   go_big_quiet_op
   first | exact rfl
  ·exact locS_const _
  try simp only [Act.put, List.setIfInBounds_toArray, List.set_cons_succ, List.set_cons_zero, Nat.reduceAdd]
  apply wpS_quiet
  ·intro γ W hW hp
   have hs := hW.size
   (try simp only [sA, sB, sC, sD] at hs)
   have qe := fun x => (xcA hW (gx) 0 (by first | omega | go_size) x).trans qg
   have qf := fun x => (xcA hW (gx) 1 (by first | omega | go_size) x).trans qh
   clear hW hp
   refine ⟨rfl, ?_⟩
   go_big_quiet_op
   first | exact rfl
  ·exact locS_const _
  try simp only [Act.put, List.setIfInBounds_toArray, List.set_cons_succ, List.set_cons_zero, Nat.reduceAdd]
  apply wpS_open (openL 4 [x, x, x, x])
  ·intro γ W hW hp
   refine ⟨rfl, ?_⟩
   go_simp
   exact ⟨⟨⟨_, rfl, LxAt.new4 (hx.below hW) (hx.below hW) (hx.below hW) (hx.below hW)⟩, fun e => by cases e⟩, (Below.refl _ _).alloc (Nat.le_refl _) _⟩
  try simp only [Act.put, List.setIfInBounds_toArray, List.set_cons_succ, List.set_cons_zero, Nat.reduceAdd]
  apply wpS_open (openW w.heap.size p1)
  ·intro γ W hW hp
   have zm := hp _ (mR _) (by kernel_rfl)
   dsimp only at zm
   refine ⟨rfl, ?_⟩
   go_simp
   refine plainNew rfl ?_
   obtain ⟨g3, e3, h3⟩ := zm
   rw [e3]
   exact open_W (productWholes_eq h3 rfl (by omega) P1.out (all4 lx lx lx lx)) (by (have := hW.size; (try simp only [sA, sB, sC, sD] at this); omega))
  try simp only [Act.put, List.setIfInBounds_toArray, List.set_cons_succ, List.set_cons_zero, Nat.reduceAdd]
  apply wpS_quiet
  ·intro γ W hW hp
   refine ⟨rfl, ?_⟩
   go_big_quiet_op
   first | exact rfl
  ·exact locS_const _
  try simp only [Act.put, List.setIfInBounds_toArray, List.set_cons_succ, List.set_cons_zero, Nat.reduceAdd]
  apply wpS_quiet
  ·intro γ W hW hp
   have hs := hW.size
   (try simp only [sA, sB, sC, sD] at hs)
   have qe := fun x => (xcA hW (w.heap.size) 0 (by first | omega | go_size) x).trans qq
   have qf := fun x => (xcA hW (w.heap.size) 1 (by first | omega | go_size) x).trans qr
   clear hW hp
   refine ⟨rfl, ?_⟩
   go_big_quiet_op
   first | exact rfl
  ·exact locS_const _
  try simp only [Act.put, List.setIfInBounds_toArray, List.set_cons_succ, List.set_cons_zero, Nat.reduceAdd]
  apply wpS_quiet
  ·intro γ W hW hp
   refine ⟨rfl, ?_⟩
   go_big_quiet_op
   first | exact rfl
  ·exact locS_const _
  try simp only [Act.put, List.setIfInBounds_toArray, List.set_cons_succ, List.set_cons_zero, Nat.reduceAdd]
  apply wpS_open (openW w.heap.size u1)
  ·intro γ W hW hp
   refine ⟨rfl, ?_⟩
   go_simp
   refine plainNew rfl ?_
   exact open_W (wholeOf_eq (by have := U1.out; omega) (by omega) (by omega)) (by (have := hW.size; (try simp only [sA, sB, sC, sD] at this); omega))
  try simp only [Act.put, List.setIfInBounds_toArray, List.set_cons_succ, List.set_cons_zero, Nat.reduceAdd]
  apply wpS_quiet
  ·intro γ W hW hp
   have hs := hW.size
   (try simp only [sA, sB, sC, sD] at hs)
   have qe := fun x => (xcA hW (gx) 0 (by first | omega | go_size) x).trans qg
   have qf := fun x => (xcA hW (gx) 1 (by first | omega | go_size) x).trans qh
   clear hW hp
   refine ⟨rfl, ?_⟩
   go_big_quiet_op
   first | exact rfl
  ·exact locS_const _
  try simp only [Act.put, List.setIfInBounds_toArray, List.set_cons_succ, List.set_cons_zero, Nat.reduceAdd]
  apply wpS_quiet
  ·intro γ W hW hp
   have hs := hW.size
   (try simp only [sA, sB, sC, sD] at hs)
   have qe := fun x => (xcA hW (gx) 0 (by first | omega | go_size) x).trans qg
   have qf := fun x => (xcA hW (gx) 1 (by first | omega | go_size) x).trans qh
   clear hW hp
   refine ⟨rfl, ?_⟩
   go_big_quiet_op
   first | exact rfl
  ·exact locS_const _
  try simp only [Act.put, List.setIfInBounds_toArray, List.set_cons_succ, List.set_cons_zero, Nat.reduceAdd]
  apply wpS_quiet
  ·intro γ W hW hp
   have hs := hW.size
   (try simp only [sA, sB, sC, sD] at hs)
   have qe := fun x => (xcA hW (gz) 0 (by first | omega | go_size) x).trans qc
   have qf := fun x => (xcA hW (gz) 1 (by first | omega | go_size) x).trans qd
   clear hW hp
   refine ⟨rfl, ?_⟩
   go_big_quiet_op
   first | exact rfl
  ·exact locS_const _
  try simp only [Act.put, List.setIfInBounds_toArray, List.set_cons_succ, List.set_cons_zero, Nat.reduceAdd]
  apply wpS_quiet
  ·intro γ W hW hp
   have hs := hW.size
   (try simp only [sA, sB, sC, sD] at hs)
   have qe := fun x => (xcA hW (gz) 0 (by first | omega | go_size) x).trans qc
   have qf := fun x => (xcA hW (gz) 1 (by first | omega | go_size) x).trans qd
   clear hW hp
   refine ⟨rfl, ?_⟩
   go_big_quiet_op
   first | exact rfl
  ·exact locS_const _
  try simp only [Act.put, List.setIfInBounds_toArray, List.set_cons_succ, List.set_cons_zero, Nat.reduceAdd]
  apply wpS_open (openL 5 [u1, x, x, z, z])
  ·intro γ W hW hp
   have zn := hp _ (mR _) (by kernel_rfl)
   dsimp only at zn
   refine ⟨rfl, ?_⟩
   obtain ⟨b3, a3, n3, c3, e3, h3, _⟩ := zn
   rw [e3]
   go_simp
   exact ⟨⟨⟨_, rfl, LxAt.new5 h3 (hx.below hW) (hx.below hW) (hz.below hW) (hz.below hW)⟩, fun e => by cases e⟩, (Below.refl _ _).alloc (Nat.le_refl _) _⟩
  try simp only [Act.put, List.setIfInBounds_toArray, List.set_cons_succ, List.set_cons_zero, Nat.reduceAdd]
  apply wpS_open (openW w.heap.size p2)
  ·intro γ W hW hp
   have xr := hp _ (mR _) (by kernel_rfl)
   dsimp only at xr
   refine ⟨rfl, ?_⟩
   go_simp
   refine plainNew rfl ?_
   obtain ⟨g3, e3, h3⟩ := xr
   rw [e3]
   exact open_W (productWholes_eq h3 rfl (by omega) P2.out (all5 mu1 lx lx lz lz)) (by (have := hW.size; (try simp only [sA, sB, sC, sD] at this); omega))
  try simp only [Act.put, List.setIfInBounds_toArray, List.set_cons_succ, List.set_cons_zero, Nat.reduceAdd]
  apply wpS_quiet
  ·intro γ W hW hp
   refine ⟨rfl, ?_⟩
   go_big_quiet_op
   first | exact rfl
  ·exact locS_const _
  try simp only [Act.put, List.setIfInBounds_toArray, List.set_cons_succ, List.set_cons_zero, Nat.reduceAdd]
  apply wpS_quiet
  ·intro γ W hW hp
   have hs := hW.size
   (try simp only [sA, sB, sC, sD] at hs)
   have qe := fun x => (xcA hW (w.heap.size) 0 (by first | omega | go_size) x).trans qq
   have qf := fun x => (xcA hW (w.heap.size) 1 (by first | omega | go_size) x).trans qr
   clear hW hp
   refine ⟨rfl, ?_⟩
   go_big_quiet_op
   first | exact rfl
  ·exact locS_const _
  try simp only [Act.put, List.setIfInBounds_toArray, List.set_cons_succ, List.set_cons_zero, Nat.reduceAdd]
  apply wpS_quiet
  ·intro γ W hW hp
   refine ⟨rfl, ?_⟩
   go_big_quiet_op
   first | exact rfl
  ·exact locS_const _
  try simp only [Act.put, List.setIfInBounds_toArray, List.set_cons_succ, List.set_cons_zero, Nat.reduceAdd]
  apply wpS_open (openW w.heap.size u2)
  ·intro γ W hW hp
   refine ⟨rfl, ?_⟩
   go_simp
   refine plainNew rfl ?_
   exact open_W (wholeOf_eq (by have := U2.out; omega) (by omega) (by omega)) (by (have := hW.size; (try simp only [sA, sB, sC, sD] at this); omega))
  try simp only [Act.put, List.setIfInBounds_toArray, List.set_cons_succ, List.set_cons_zero, Nat.reduceAdd]
  apply wpS_quiet
  ·intro γ W hW hp
   have hs := hW.size
   (try simp only [sA, sB, sC, sD] at hs)
   have qe := fun x => (xcA hW (gx) 0 (by first | omega | go_size) x).trans qg
   have qf := fun x => (xcA hW (gx) 1 (by first | omega | go_size) x).trans qh
   clear hW hp
   refine ⟨rfl, ?_⟩
   go_big_quiet_op
   first | exact rfl
  ·exact locS_const _
  try simp only [Act.put, List.setIfInBounds_toArray, List.set_cons_succ, List.set_cons_zero, Nat.reduceAdd]
  apply wpS_quiet
  ·intro γ W hW hp
   have hs := hW.size
   (try simp only [sA, sB, sC, sD] at hs)
   have qe := fun x => (xcA hW (gz) 0 (by first | omega | go_size) x).trans qc
   have qf := fun x => (xcA hW (gz) 1 (by first | omega | go_size) x).trans qd
   clear hW hp
   refine ⟨rfl, ?_⟩
   go_big_quiet_op
   first | exact rfl
  ·exact locS_const _
  try simp only [Act.put, List.setIfInBounds_toArray, List.set_cons_succ, List.set_cons_zero, Nat.reduceAdd]
  apply wpS_quiet
  ·intro γ W hW hp
   have hs := hW.size
   (try simp only [sA, sB, sC, sD] at hs)
   have qe := fun x => (xcA hW (gz) 0 (by first | omega | go_size) x).trans qc
   have qf := fun x => (xcA hW (gz) 1 (by first | omega | go_size) x).trans qd
   clear hW hp
   refine ⟨rfl, ?_⟩
   go_big_quiet_op
   first | exact rfl
  ·exact locS_const _
  try simp only [Act.put, List.setIfInBounds_toArray, List.set_cons_succ, List.set_cons_zero, Nat.reduceAdd]
  apply wpS_quiet
  ·intro γ W hW hp
   have hs := hW.size
   (try simp only [sA, sB, sC, sD] at hs)
   have qe := fun x => (xcA hW (gz) 0 (by first | omega | go_size) x).trans qc
   have qf := fun x => (xcA hW (gz) 1 (by first | omega | go_size) x).trans qd
   clear hW hp
   refine ⟨rfl, ?_⟩
   go_big_quiet_op
   first | exact rfl
  ·exact locS_const _
  try simp only [Act.put, List.setIfInBounds_toArray, List.set_cons_succ, List.set_cons_zero, Nat.reduceAdd]
  apply wpS_open (openL 5 [u2, x, z, z, z])
  ·intro γ W hW hp
   have xt := hp _ (mR _) (by kernel_rfl)
   dsimp only at xt
   refine ⟨rfl, ?_⟩
   obtain ⟨b3, a3, n3, c3, e3, h3, _⟩ := xt
   rw [e3]
   go_simp
   exact ⟨⟨⟨_, rfl, LxAt.new5 h3 (hx.below hW) (hz.below hW) (hz.below hW) (hz.below hW)⟩, fun e => by cases e⟩, (Below.refl _ _).alloc (Nat.le_refl _) _⟩
  try simp only [Act.put, List.setIfInBounds_toArray, List.set_cons_succ, List.set_cons_zero, Nat.reduceAdd]
  apply wpS_open (openW w.heap.size p3)
  ·intro γ W hW hp
   have xu := hp _ (mR _) (by kernel_rfl)
   dsimp only at xu
   refine ⟨rfl, ?_⟩
   go_simp
   refine plainNew rfl ?_
   obtain ⟨g3, e3, h3⟩ := xu
   rw [e3]
   exact open_W (productWholes_eq h3 rfl (by omega) P3.out (all5 mu2 lx lz lz lz)) (by (have := hW.size; (try simp only [sA, sB, sC, sD] at this); omega))
  try simp only [Act.put, List.setIfInBounds_toArray, List.set_cons_succ, List.set_cons_zero, Nat.reduceAdd]
  apply wpS_quiet
  ·intro γ W hW hp
   refine ⟨rfl, ?_⟩
   go_big_quiet_op
   first | exact rfl
  ·exact locS_const _
  try simp only [Act.put, List.setIfInBounds_toArray, List.set_cons_succ, List.set_cons_zero, Nat.reduceAdd]
  apply wpS_quiet
  ·intro γ W hW hp
   have hs := hW.size
   (try simp only [sA, sB, sC, sD] at hs)
   have qe := fun x => (xcA hW (w.heap.size) 0 (by first | omega | go_size) x).trans qq
   have qf := fun x => (xcA hW (w.heap.size) 1 (by first | omega | go_size) x).trans qr
   clear hW hp
   refine ⟨rfl, ?_⟩
   go_big_quiet_op
   first | exact rfl
  ·exact locS_const _
  try simp only [Act.put, List.setIfInBounds_toArray, List.set_cons_succ, List.set_cons_zero, Nat.reduceAdd]
  apply wpS_quiet
  ·intro γ W hW hp
   refine ⟨rfl, ?_⟩
   go_big_quiet_op
   first | exact rfl
  ·exact locS_const _
  try simp only [Act.put, List.setIfInBounds_toArray, List.set_cons_succ, List.set_cons_zero, Nat.reduceAdd]
  apply wpS_quiet
  ·intro γ W hW hp
   have hs := hW.size
   (try simp only [sA, sB, sC, sD] at hs)
   have qe := fun x => (xcA hW (w.heap.size) 0 (by first | omega | go_size) x).trans qq
   have qf := fun x => (xcA hW (w.heap.size) 1 (by first | omega | go_size) x).trans qr
   clear hW hp
   refine ⟨rfl, ?_⟩
   go_big_quiet_op
   first | exact rfl
  ·exact locS_const _
  try simp only [Act.put, List.setIfInBounds_toArray, List.set_cons_succ, List.set_cons_zero, Nat.reduceAdd]
  apply wpS_quiet
  ·intro γ W hW hp
   refine ⟨rfl, ?_⟩
   go_big_quiet_op
   first | exact rfl
  ·exact locS_const _
  try simp only [Act.put, List.setIfInBounds_toArray, List.set_cons_succ, List.set_cons_zero, Nat.reduceAdd]
  apply wpS_open (openW w.heap.size u3)
  ·intro γ W hW hp
   refine ⟨rfl, ?_⟩
   go_simp
   refine plainNew rfl ?_
   exact open_W (wholeOf_eq U3.out (by omega) (by omega)) (by (have := hW.size; (try simp only [sA, sB, sC, sD] at this); omega))
  try simp only [Act.put, List.setIfInBounds_toArray, List.set_cons_succ, List.set_cons_zero, Nat.reduceAdd]
  apply wpS_quiet
  ·intro γ W hW hp
   have hs := hW.size
   (try simp only [sA, sB, sC, sD] at hs)
   have qe := fun x => (xcA hW (gz) 0 (by first | omega | go_size) x).trans qc
   have qf := fun x => (xcA hW (gz) 1 (by first | omega | go_size) x).trans qd
   clear hW hp
   refine ⟨rfl, ?_⟩
   go_big_quiet_op
   first | exact rfl
  ·exact locS_const _
  try simp only [Act.put, List.setIfInBounds_toArray, List.set_cons_succ, List.set_cons_zero, Nat.reduceAdd]
  apply wpS_quiet
  ·intro γ W hW hp
   have hs := hW.size
   (try simp only [sA, sB, sC, sD] at hs)
   have qe := fun x => (xcA hW (gz) 0 (by first | omega | go_size) x).trans qc
   have qf := fun x => (xcA hW (gz) 1 (by first | omega | go_size) x).trans qd
   clear hW hp
   refine ⟨rfl, ?_⟩
   go_big_quiet_op
   first | exact rfl
  ·exact locS_const _
  try simp only [Act.put, List.setIfInBounds_toArray, List.set_cons_succ, List.set_cons_zero, Nat.reduceAdd]
  apply wpS_quiet
  ·intro γ W hW hp
   have hs := hW.size
   (try simp only [sA, sB, sC, sD] at hs)
   have qe := fun x => (xcA hW (gz) 0 (by first | omega | go_size) x).trans qc
   have qf := fun x => (xcA hW (gz) 1 (by first | omega | go_size) x).trans qd
   clear hW hp
   refine ⟨rfl, ?_⟩
   go_big_quiet_op
   first | exact rfl
  ·exact locS_const _
  try simp only [Act.put, List.setIfInBounds_toArray, List.set_cons_succ, List.set_cons_zero, Nat.reduceAdd]
  apply wpS_quiet
  ·intro γ W hW hp
   have hs := hW.size
   (try simp only [sA, sB, sC, sD] at hs)
   have qe := fun x => (xcA hW (gz) 0 (by first | omega | go_size) x).trans qc
   have qf := fun x => (xcA hW (gz) 1 (by first | omega | go_size) x).trans qd
   clear hW hp
   refine ⟨rfl, ?_⟩
   go_big_quiet_op
   first | exact rfl
  ·exact locS_const _
  try simp only [Act.put, List.setIfInBounds_toArray, List.set_cons_succ, List.set_cons_zero, Nat.reduceAdd]
  apply wpS_open (openL 5 [u3, z, z, z, z])
  ·intro γ W hW hp
   have xv := hp _ (mR _) (by kernel_rfl)
   dsimp only at xv
   refine ⟨rfl, ?_⟩
   obtain ⟨b3, a3, n3, c3, e3, h3, _⟩ := xv
   rw [e3]
   go_simp
   exact ⟨⟨⟨_, rfl, LxAt.new5 h3 (hz.below hW) (hz.below hW) (hz.below hW) (hz.below hW)⟩, fun e => by cases e⟩, (Below.refl _ _).alloc (Nat.le_refl _) _⟩
  try simp only [Act.put, List.setIfInBounds_toArray, List.set_cons_succ, List.set_cons_zero, Nat.reduceAdd]
  apply wpS_open (openW w.heap.size p4)
  ·intro γ W hW hp
   have xw := hp _ (mR _) (by kernel_rfl)
   dsimp only at xw
   refine ⟨rfl, ?_⟩
   go_simp
   refine plainNew rfl ?_
   obtain ⟨g3, e3, h3⟩ := xw
   rw [e3]
   exact open_W (productWholes_eq h3 rfl (by omega) P4.out (all5 mu3 lz lz lz lz)) (by (have := hW.size; (try simp only [sA, sB, sC, sD] at this); omega))
  try simp only [Act.put, List.setIfInBounds_toArray, List.set_cons_succ, List.set_cons_zero, Nat.reduceAdd]
  apply wpS_open (openL 4 [p1, p2, p3, p4])
  ·intro γ W hW hp
   have zo := hp _ (mL _ (mL _ (mL _ (mL _ (mL _ (mL _ (mL _ (mL _ (mL _ (mR _)))))))))) (by kernel_rfl)
   dsimp only at zo
   have xy := hp _ (mL _ (mL _ (mL _ (mL _ (mL _ (mL _ (mR _))))))) (by kernel_rfl)
   dsimp only at xy
   have za := hp _ (mL _ (mL _ (mL _ (mR _)))) (by kernel_rfl)
   dsimp only at za
   have zb := hp _ (mR _) (by kernel_rfl)
   dsimp only at zb
   refine ⟨rfl, ?_⟩
   obtain ⟨b3, a3, n3, c3, e3, h3, _⟩ := zo
   obtain ⟨b4, a4, n4, c4, e4, h4, _⟩ := xy
   obtain ⟨b5, a5, n5, c5, e5, h5, _⟩ := za
   obtain ⟨b6, a6, n6, c6, e6, h6, _⟩ := zb
   rw [e3, e4, e5, e6]
   go_simp
   exact ⟨⟨⟨_, rfl, LxAt.new4 h3 h4 h5 h6⟩, fun e => by cases e⟩, (Below.refl _ _).alloc (Nat.le_refl _) _⟩
  try simp only [Act.put, List.setIfInBounds_toArray, List.set_cons_succ, List.set_cons_zero, Nat.reduceAdd]
  apply wpS_open (openW w.heap.size t)
  ·intro γ W hW hp
   have zc := hp _ (mR _) (by kernel_rfl)
   dsimp only at zc
   refine ⟨rfl, ?_⟩
   go_simp
   refine plainNew rfl ?_
   obtain ⟨g3, e3, h3⟩ := zc
   rw [e3]
   exact open_W (sumWholes_eq h3 rfl (by omega) RT.out (all4 mp1 mp2 mp3 mp4)) (by (have := hW.size; (try simp only [sA, sB, sC, sD] at this); omega))
  try simp only [Act.put, List.setIfInBounds_toArray, List.set_cons_succ, List.set_cons_zero, Nat.reduceAdd]
  apply wpS_end
  intro γ w4 hb4 hG4 hA4
  have je := hG4 _ (mL _ (mL _ (mL _ (mL _ (mL _ (mL _ (mL _ (mL _ (mL _ (mL _ (mL _ (mL _ (mR _)))))))))))))
  dsimp only at je
  have jf := hG4 _ (mL _ (mL _ (mL _ (mL _ (mL _ (mL _ (mL _ (mL _ (mL _ (mL _ (mL _ (mR _))))))))))))
  dsimp only at jf
  have jg := hG4 _ (mL _ (mL _ (mL _ (mL _ (mL _ (mL _ (mL _ (mL _ (mL _ (mL _ (mR _)))))))))))
  dsimp only at jg
  have zp := hG4 _ (mL _ (mL _ (mL _ (mL _ (mL _ (mL _ (mL _ (mL _ (mL _ (mR _))))))))))
  dsimp only at zp
  have zq := hG4 _ (mL _ (mL _ (mL _ (mL _ (mL _ (mL _ (mL _ (mL _ (mR _)))))))))
  dsimp only at zq
  have zr := hG4 _ (mL _ (mL _ (mL _ (mL _ (mL _ (mL _ (mL _ (mR _))))))))
  dsimp only at zr
  have zt := hG4 _ (mL _ (mL _ (mL _ (mL _ (mL _ (mL _ (mR _)))))))
  dsimp only at zt
  have zu := hG4 _ (mL _ (mL _ (mL _ (mL _ (mL _ (mR _))))))
  dsimp only at zu
  have zv := hG4 _ (mL _ (mL _ (mL _ (mL _ (mR _)))))
  dsimp only at zv
  have zw := hG4 _ (mL _ (mL _ (mL _ (mR _))))
  dsimp only at zw
  have zx := hG4 _ (mL _ (mL _ (mR _)))
  dsimp only at zx
  have zy := hG4 _ (mL _ (mR _))
  dsimp only at zy
  have xj := hG4 _ (mR _)
  dsimp only at xj
  clear hG4 hA4
  simp only [List.drop_succ_cons, List.drop_zero]
  have hz4 := hb4.size
  (try simp only [sA, sB, sC, sD] at hz4)
  obtain ⟨b7, a7, n7, c7, e7, h7, f7⟩ := xj
  simp only [e7]
  clear e7
  have qt := (hb4.block (w.heap.size) (blk_lt' qi.out)).trans qi.out
  clear qq qr xn qi
  obtain ⟨zd, ze, jh, jn⟩ := bk2 qt
  replace qt := Lib.hid qt
  have qu := (hb4.block (w.heap.size + 1 + 1) (blk_lt' qj.out)).trans qj.out
  clear xh xi xo qj
  obtain ⟨zf, zg, jo, jp⟩ := bk2 qu
  replace qu := Lib.hid qu
  have qv := (hb4.block (gx) (blk_lt' qk.out)).trans qk.out
  clear qg qh xp qk
  obtain ⟨zh, zi, ji, jq⟩ := bk2 qv
  replace qv := Lib.hid qv
  have qw := (hb4.block (gz) (blk_lt' ql.out)).trans ql.out
  clear qc qd xq ql
  obtain ⟨zj, zk, jj, jr⟩ := bk2 qw
  replace qw := Lib.hid qw
  replace hx := hx.below hb4
  replace hz := hz.below hb4
  have hB4 : Below w.heap.size w w4 := below_via hb4 (by assumption) (by go_size)
  clear zd
  clear ze
  clear jh qt
  clear zh
  clear zi
  clear ji qv
  clear zj
  clear zk
  clear jj qw
  clear hA hBB hAA hx hz lx lz mu1 mu2 mu3 mp1 mp2 mp3 mp4
  go_wp2_with fail
  refine bodyPost_ret (v := .agg #[.bool b7, .slice a7 n7 c7]) (by simp [results, Tryz.results124, go_sem, zf, zg]) rfl ⟨_, _, _, _, rfl, ?_, f7, ?_⟩
  ·have HO := qu.out
   (exact ck)
  ·(exact ck)
end Go.Proofs.YtnkmgpmehkholaaGreat
