/- Lemmas and contracts of functions. No condition. -/
import Derived.Test.YtnkmgpmehkholaaGreatPq13
import Derived.Test.YtnkmgpmehkholaaGreatPq32
namespace Go.Proofs.YtnkmgpmehkholaaGreat
section
open Go.RowKit
set_option linter.unusedVariables false
set_option maxHeartbeats 1000000
set_option maxRecDepth 20000
set_option linter.unusedSimpArgs false
attribute [local go_sem] openAt openUpon
theorem denominatorOf_eq {A B x z t : Int} {b b2 : Bool} {a a2 : Option Addr} {n c n2 c2 : Nat} {w : World} (hA : -1000 ≤ A ∧ A ≤ 1000) (hBB : -10000 ≤ B ∧ B ≤ 10000) (hx : Wx w b a n c x) (hz : Wx w b2 a2 n2 c2 z) (lx' : ln x ≤ 80) (lz' : ln z ≤ 80) (et : botZ A B x z = t) :
  Calls Tryz.prog 104 #[.agg #[.int .i64 A, .int .i64 B], .agg #[.bool b, .slice a n c, .bool b2, .slice a2 n2 c2]] w (NewW w t) := by
 obtain ⟨p1, hp1⟩ : ∃ v, prodZ [x, x, x] 3 = v := ⟨_, rfl⟩
 obtain ⟨p2, hp2⟩ : ∃ v, prodZ [A, x, z, z] 4 = v := ⟨_, rfl⟩
 obtain ⟨p3, hp3⟩ : ∃ v, prodZ [B, z, z, z] 4 = v := ⟨_, rfl⟩
 obtain ⟨s, hs0⟩ : ∃ v, sumZ [p1, p2, p3] 3 = v := ⟨_, rfl⟩
 have RT := Lib.hid (show prodZ [4, z, s] 3 = t by
  rw [← et, ← bot_impl]; subst hp1 hp2 hp3 hs0; rfl)
 have lx : ln x ≤ 1500 := by omega
 have lz : ln z ≤ 1500 := by omega
 have g1 := ln_small (a := A) (by omega) (by omega)
 have g2 := ln_small (a := B) (by omega) (by omega)
 have g3 := ln_small (a := 4) (by omega) (by omega)
 have lA : ln A ≤ 1500 := by omega
 have lB : ln B ≤ 1500 := by omega
 have l4 : ln 4 ≤ 1500 := by omega
 have nA : ln A ≤ 80 := by omega
 have nB : ln B ≤ 80 := by omega
 have mp1' : ln p1 ≤ 400 := by rw [← hp1]; exact Nat.le_trans (prodZ_ln (all3 lx' lx' lx') 3) (by simp)
 have mp2' : ln p2 ≤ 400 := by rw [← hp2]; exact Nat.le_trans (prodZ_ln (all4 nA lx' lz' lz') 4) (by simp)
 have mp3' : ln p3 ≤ 400 := by rw [← hp3]; exact Nat.le_trans (prodZ_ln (all4 nB lz' lz' lz') 4) (by simp)
 have ms : ln s ≤ 1500 := by rw [← hs0]; exact Nat.le_trans (sumZ_ln (all3 mp1' mp2' mp3') 3) (by simp)
 have mp1 : ln p1 ≤ 1500 := by omega
 have mp2 : ln p2 ≤ 1500 := by omega
 have mp3 : ln p3 ≤ 1500 := by omega
 have P1 := Lib.hid hp1; have P2 := Lib.hid hp2; have P3 := Lib.hid hp3; have SS := Lib.hid hs0
 clear hp1 hp2 hp3 hs0 et g1 g2 g3 nA nB lx' lz' mp1' mp2' mp3'
 go_enter Tryz.func104, Tryz.ntmps104
 go_wp2_with fail
 refine chk (fun W => Below w.heap.size w W ∧ W.heap[w.heap.size]? = some (.cells #[.int .i64 A, .int .i64 B] 32 (0, 0)) ∧ W.heap[w.heap.size + 1]? = some (.cells #[.bool b, .slice a n c, .bool b2, .slice a2 n2 c2] 107 (0, 0)) ∧ W.heap[w.heap.size + 1 + 1]? = some (.cells #[.bool false, .slice none 0 0] 80 (0, 0)) ∧ Wx W b a n c x ∧ Wx W b2 a2 n2 c2 z) (by refine ⟨?_, ?_, ?_, ?_, ?_, ?_⟩ <;> (exact ck)) ?_
 try clear hx
 try clear hz
 rintro w1 ⟨hB1, qk, ql, qm, hx', hz'⟩
 obtain ⟨xj, xk, zg, yu⟩ := bk2 qk
 replace qk := Lib.hid qk
 obtain ⟨xl, xm, xn, xo, zh, yv⟩ := bk4 ql
 replace ql := Lib.hid ql
 obtain ⟨xp, xq, zi, yw⟩ := bk2 qm
 replace qm := Lib.hid qm
 have hx := hx'
 clear hx'
 have hz := hz'
 clear hz'
 go_region
 go_wp2_with fail
 replace qk := qk.out
 replace ql := ql.out
 replace qm := qm.out
 refine chk (fun W => Below w.heap.size w W ∧ W.heap[w.heap.size]? = some (.cells #[.int .i64 A, .int .i64 B] 32 (0, 0)) ∧ W.heap[w.heap.size + 1 + 1]? = some (.cells #[.bool false, .slice none 0 0] 80 (0, 0)) ∧ W.heap[w1.heap.size]? = some (.cells #[.bool b, .slice a n c] 80 (0, 0)) ∧ W.heap[w1.heap.size + 1]? = some (.cells #[.bool b2, .slice a2 n2 c2] 80 (0, 0)) ∧ Wx W b a n c x ∧ Wx W b2 a2 n2 c2 z) (by refine ⟨?_, ?_, ?_, ?_, ?_, ?_, ?_⟩ <;> (exact ck)) ?_
 try clear hx
 try clear hz
 clear xj xk zg qk
 clear xl xm xn xo zh ql
 clear xp xq zi qm
 clear hB1
 rintro w3 ⟨hB3, qe, qf, qg, qh, hx', hz'⟩
 obtain ⟨qr, qt, zj, zk⟩ := bk2 qe
 replace qe := Lib.hid qe
 obtain ⟨xr, xt, zm, zn⟩ := bk2 qf
 replace qf := Lib.hid qf
 obtain ⟨qo, qq, zo, zp⟩ := bk2 qg
 replace qg := Lib.hid qg
 obtain ⟨qc, qd, zq, zr⟩ := bk2 qh
 replace qh := Lib.hid qh
 have hx := hx'
 clear hx'
 have hz := hz'
 clear hz'
 generalize w1.heap.size + 1 = gz at *
 generalize w1.heap.size = gx at *
 clear w1
 rotate_left
 go_wp2_with fail
 replace qk := qk.out
 replace ql := ql.out
 replace qm := qm.out
 refine chk (fun W => Below w.heap.size w W ∧ W.heap[w.heap.size]? = some (.cells #[.int .i64 A, .int .i64 B] 32 (0, 0)) ∧ W.heap[w.heap.size + 1 + 1]? = some (.cells #[.bool false, .slice none 0 0] 80 (0, 0)) ∧ W.heap[w1.heap.size + 1]? = some (.cells #[.bool b, .slice a n c] 80 (0, 0)) ∧ W.heap[w1.heap.size]? = some (.cells #[.bool b2, .slice a2 n2 c2] 80 (0, 0)) ∧ Wx W b a n c x ∧ Wx W b2 a2 n2 c2 z) (by refine ⟨?_, ?_, ?_, ?_, ?_, ?_, ?_⟩ <;> (exact ck)) ?_
 try clear hx
 try clear hz
 clear xj xk zg qk
 clear xl xm xn xo zh ql
 clear xp xq zi qm
 clear hB1
 rintro w3 ⟨hB3, qe, qf, qg, qh, hx', hz'⟩
 obtain ⟨qr, qt, zj, zk⟩ := bk2 qe
 replace qe := Lib.hid qe
 obtain ⟨xr, xt, zm, zn⟩ := bk2 qf
 replace qf := Lib.hid qf
 obtain ⟨qo, qq, zo, zp⟩ := bk2 qg
 replace qg := Lib.hid qg
 obtain ⟨qc, qd, zq, zr⟩ := bk2 qh
 replace qh := Lib.hid qh
 have hx := hx'
 clear hx'
 have hz := hz'
 clear hz'
 generalize w1.heap.size + 1 = gx at *
 generalize w1.heap.size = gz at *
 clear w1
 all_goals
  refine wp_open (n := 24) (by kernel_rfl) (by kernel_rfl) (by kernel_rfl) (by kernel_rfl) ?_
  simp only [List.take_succ_cons, List.take_zero]
  apply wpS_quiet
  ·intro γ W hW hp
   have hs := hW.size
   (try simp only [sA, sB, sC, sD] at hs)
   have qi := fun x => (xcA hW (gx) 0 (by first | omega | go_size) x).trans qo
   have qj := fun x => (xcA hW (gx) 1 (by first | omega | go_size) x).trans qq
   clear hW hp
   refine ⟨rfl, ?_⟩
   go_big_quiet_op
   first | exact rfl
  ·exact locS_const _
  try simp only [Act.put, List.setIfInBounds_toArray, List.set_cons_succ, List.set_cons_zero, Nat.reduceAdd]
  apply wpS_quiet
  ·intro γ W hW hp
   have hs := hW.size
   (try simp only [sA, sB, sC, sD] at hs)
   have qi := fun x => (xcA hW (gx) 0 (by first | omega | go_size) x).trans qo
   have qj := fun x => (xcA hW (gx) 1 (by first | omega | go_size) x).trans qq
   clear hW hp
   refine ⟨rfl, ?_⟩
   go_big_quiet_op
   first | exact rfl
  ·exact locS_const _
  try simp only [Act.put, List.setIfInBounds_toArray, List.set_cons_succ, List.set_cons_zero, Nat.reduceAdd]
  apply wpS_quiet
  ·intro γ W hW hp
   have hs := hW.size
   (try simp only [sA, sB, sC, sD] at hs)
   have qi := fun x => (xcA hW (gx) 0 (by first | omega | go_size) x).trans qo
   have qj := fun x => (xcA hW (gx) 1 (by first | omega | go_size) x).trans qq
   clear hW hp
   refine ⟨rfl, ?_⟩
   go_big_quiet_op
   first | exact rfl
  ·exact locS_const _
  try simp only [Act.put, List.setIfInBounds_toArray, List.set_cons_succ, List.set_cons_zero, Nat.reduceAdd]
  apply wpS_open (openL 3 [x, x, x])
  ·intro γ W hW hp
   refine ⟨rfl, ?_⟩
   go_simp
   exact ⟨⟨⟨_, rfl, LxAt.new3 (hx.below hW) (hx.below hW) (hx.below hW)⟩, fun e => by cases e⟩, (Below.refl _ _).alloc (Nat.le_refl _) _⟩
  try simp only [Act.put, List.setIfInBounds_toArray, List.set_cons_succ, List.set_cons_zero, Nat.reduceAdd]
  apply wpS_open (openW w.heap.size p1)
  ·intro γ W hW hp
   have xi := hp _ (mR _) (by kernel_rfl)
   dsimp only at xi
   refine ⟨rfl, ?_⟩
   go_simp
   refine plainNew rfl ?_
   obtain ⟨g3, e3, h3⟩ := xi
   rw [e3]
   exact open_W (productWholes_eq h3 rfl (by omega) P1.out (all3 lx lx lx)) (by (have := hW.size; (try simp only [sA, sB, sC, sD] at this); omega))
  try simp only [Act.put, List.setIfInBounds_toArray, List.set_cons_succ, List.set_cons_zero, Nat.reduceAdd]
  apply wpS_quiet
  ·intro γ W hW hp
   refine ⟨rfl, ?_⟩
   go_big_quiet_op
   first | exact rfl
  ·exact locS_const _
  try simp only [Act.put, List.setIfInBounds_toArray, List.set_cons_succ, List.set_cons_zero, Nat.reduceAdd]
  apply wpS_quiet
  ·intro γ W hW hp
   have hs := hW.size
   (try simp only [sA, sB, sC, sD] at hs)
   have qi := fun x => (xcA hW (w.heap.size) 0 (by first | omega | go_size) x).trans qr
   have qj := fun x => (xcA hW (w.heap.size) 1 (by first | omega | go_size) x).trans qt
   clear hW hp
   refine ⟨rfl, ?_⟩
   go_big_quiet_op
   first | exact rfl
  ·exact locS_const _
  try simp only [Act.put, List.setIfInBounds_toArray, List.set_cons_succ, List.set_cons_zero, Nat.reduceAdd]
  apply wpS_open (openW w.heap.size A)
  ·intro γ W hW hp
   refine ⟨rfl, ?_⟩
   go_simp
   refine plainNew rfl ?_
   exact open_W (wholeOf_any A W (by omega) (by omega)) (by (have := hW.size; (try simp only [sA, sB, sC, sD] at this); omega))
  try simp only [Act.put, List.setIfInBounds_toArray, List.set_cons_succ, List.set_cons_zero, Nat.reduceAdd]
  apply wpS_quiet
  ·intro γ W hW hp
   have hs := hW.size
   (try simp only [sA, sB, sC, sD] at hs)
   have qi := fun x => (xcA hW (gx) 0 (by first | omega | go_size) x).trans qo
   have qj := fun x => (xcA hW (gx) 1 (by first | omega | go_size) x).trans qq
   clear hW hp
   refine ⟨rfl, ?_⟩
   go_big_quiet_op
   first | exact rfl
  ·exact locS_const _
  try simp only [Act.put, List.setIfInBounds_toArray, List.set_cons_succ, List.set_cons_zero, Nat.reduceAdd]
  apply wpS_quiet
  ·intro γ W hW hp
   have hs := hW.size
   (try simp only [sA, sB, sC, sD] at hs)
   have qi := fun x => (xcA hW (gz) 0 (by first | omega | go_size) x).trans qc
   have qj := fun x => (xcA hW (gz) 1 (by first | omega | go_size) x).trans qd
   clear hW hp
   refine ⟨rfl, ?_⟩
   go_big_quiet_op
   first | exact rfl
  ·exact locS_const _
  try simp only [Act.put, List.setIfInBounds_toArray, List.set_cons_succ, List.set_cons_zero, Nat.reduceAdd]
  apply wpS_quiet
  ·intro γ W hW hp
   have hs := hW.size
   (try simp only [sA, sB, sC, sD] at hs)
   have qi := fun x => (xcA hW (gz) 0 (by first | omega | go_size) x).trans qc
   have qj := fun x => (xcA hW (gz) 1 (by first | omega | go_size) x).trans qd
   clear hW hp
   refine ⟨rfl, ?_⟩
   go_big_quiet_op
   first | exact rfl
  ·exact locS_const _
  try simp only [Act.put, List.setIfInBounds_toArray, List.set_cons_succ, List.set_cons_zero, Nat.reduceAdd]
  apply wpS_open (openL 4 [A, x, z, z])
  ·intro γ W hW hp
   have jr := hp _ (mR _) (by kernel_rfl)
   dsimp only at jr
   refine ⟨rfl, ?_⟩
   obtain ⟨b3, a3, n3, c3, e3, h3, _⟩ := jr
   rw [e3]
   go_simp
   exact ⟨⟨⟨_, rfl, LxAt.new4 h3 (hx.below hW) (hz.below hW) (hz.below hW)⟩, fun e => by cases e⟩, (Below.refl _ _).alloc (Nat.le_refl _) _⟩
  try simp only [Act.put, List.setIfInBounds_toArray, List.set_cons_succ, List.set_cons_zero, Nat.reduceAdd]
  apply wpS_open (openW w.heap.size p2)
  ·intro γ W hW hp
   have zt := hp _ (mR _) (by kernel_rfl)
   dsimp only at zt
   refine ⟨rfl, ?_⟩
   go_simp
   refine plainNew rfl ?_
   obtain ⟨g3, e3, h3⟩ := zt
   rw [e3]
   exact open_W (productWholes_eq h3 rfl (by omega) P2.out (all4 lA lx lz lz)) (by (have := hW.size; (try simp only [sA, sB, sC, sD] at this); omega))
  try simp only [Act.put, List.setIfInBounds_toArray, List.set_cons_succ, List.set_cons_zero, Nat.reduceAdd]
  apply wpS_quiet
  ·intro γ W hW hp
   refine ⟨rfl, ?_⟩
   go_big_quiet_op
   first | exact rfl
  ·exact locS_const _
  try simp only [Act.put, List.setIfInBounds_toArray, List.set_cons_succ, List.set_cons_zero, Nat.reduceAdd]
  apply wpS_quiet
  ·intro γ W hW hp
   have hs := hW.size
   (try simp only [sA, sB, sC, sD] at hs)
   have qi := fun x => (xcA hW (w.heap.size) 0 (by first | omega | go_size) x).trans qr
   have qj := fun x => (xcA hW (w.heap.size) 1 (by first | omega | go_size) x).trans qt
   clear hW hp
   refine ⟨rfl, ?_⟩
   go_big_quiet_op
   first | exact rfl
  ·exact locS_const _
  try simp only [Act.put, List.setIfInBounds_toArray, List.set_cons_succ, List.set_cons_zero, Nat.reduceAdd]
  apply wpS_open (openW w.heap.size B)
  ·intro γ W hW hp
   refine ⟨rfl, ?_⟩
   go_simp
   refine plainNew rfl ?_
   exact open_W (wholeOf_any B W (by omega) (by omega)) (by (have := hW.size; (try simp only [sA, sB, sC, sD] at this); omega))
  try simp only [Act.put, List.setIfInBounds_toArray, List.set_cons_succ, List.set_cons_zero, Nat.reduceAdd]
  apply wpS_quiet
  ·intro γ W hW hp
   have hs := hW.size
   (try simp only [sA, sB, sC, sD] at hs)
   have qi := fun x => (xcA hW (gz) 0 (by first | omega | go_size) x).trans qc
   have qj := fun x => (xcA hW (gz) 1 (by first | omega | go_size) x).trans qd
   clear hW hp
   refine ⟨rfl, ?_⟩
   go_big_quiet_op
   first | exact rfl
  ·exact locS_const _
  try simp only [Act.put, List.setIfInBounds_toArray, List.set_cons_succ, List.set_cons_zero, Nat.reduceAdd]
  apply wpS_quiet
  ·intro γ W hW hp
   have hs := hW.size
   (try simp only [sA, sB, sC, sD] at hs)
   have qi := fun x => (xcA hW (gz) 0 (by first | omega | go_size) x).trans qc
   have qj := fun x => (xcA hW (gz) 1 (by first | omega | go_size) x).trans qd
   clear hW hp
   refine ⟨rfl, ?_⟩
   go_big_quiet_op
   first | exact rfl
  ·exact locS_const _
  try simp only [Act.put, List.setIfInBounds_toArray, List.set_cons_succ, List.set_cons_zero, Nat.reduceAdd]
  apply wpS_quiet
  ·intro γ W hW hp
   have hs := hW.size
   (try simp only [sA, sB, sC, sD] at hs)
   have qi := fun x => (xcA hW (gz) 0 (by first | omega | go_size) x).trans qc
   have qj := fun x => (xcA hW (gz) 1 (by first | omega | go_size) x).trans qd
   clear hW hp
   refine ⟨rfl, ?_⟩
   go_big_quiet_op
   first | exact rfl
  ·exact locS_const _
  try simp only [Act.put, List.setIfInBounds_toArray, List.set_cons_succ, List.set_cons_zero, Nat.reduceAdd]
  apply wpS_open (openL 4 [B, z, z, z])
  ·intro γ W hW hp
   have zu := hp _ (mR _) (by kernel_rfl)
   dsimp only at zu
   refine ⟨rfl, ?_⟩
   obtain ⟨b3, a3, n3, c3, e3, h3, _⟩ := zu
   rw [e3]
   go_simp
   exact ⟨⟨⟨_, rfl, LxAt.new4 h3 (hz.below hW) (hz.below hW) (hz.below hW)⟩, fun e => by cases e⟩, (Below.refl _ _).alloc (Nat.le_refl _) _⟩
  try simp only [Act.put, List.setIfInBounds_toArray, List.set_cons_succ, List.set_cons_zero, Nat.reduceAdd]
  apply wpS_open (openW w.heap.size p3)
  ·intro γ W hW hp
   have zv := hp _ (mR _) (by kernel_rfl)
   dsimp only at zv
   refine ⟨rfl, ?_⟩
   go_simp
   refine plainNew rfl ?_
   obtain ⟨g3, e3, h3⟩ := zv
   rw [e3]
   exact open_W (productWholes_eq h3 rfl (by omega) P3.out (all4 lB lz lz lz)) (by (have := hW.size; (try simp only [sA, sB, sC, sD] at this); omega))
  try simp only [Act.put, List.setIfInBounds_toArray, List.set_cons_succ, List.set_cons_zero, Nat.reduceAdd]
  apply wpS_open (openL 3 [p1, p2, p3])
  ·intro γ W hW hp
   have jt := hp _ (mL _ (mL _ (mL _ (mL _ (mL _ (mL _ (mR _))))))) (by kernel_rfl)
   dsimp only at jt
   have zw := hp _ (mL _ (mL _ (mL _ (mR _)))) (by kernel_rfl)
   dsimp only at zw
   have zx := hp _ (mR _) (by kernel_rfl)
   dsimp only at zx
   refine ⟨rfl, ?_⟩
   obtain ⟨b3, a3, n3, c3, e3, h3, _⟩ := jt
   obtain ⟨b4, a4, n4, c4, e4, h4, _⟩ := zw
   obtain ⟨b5, a5, n5, c5, e5, h5, _⟩ := zx
   rw [e3, e4, e5]
   go_simp
   exact ⟨⟨⟨_, rfl, LxAt.new3 h3 h4 h5⟩, fun e => by cases e⟩, (Below.refl _ _).alloc (Nat.le_refl _) _⟩
  try simp only [Act.put, List.setIfInBounds_toArray, List.set_cons_succ, List.set_cons_zero, Nat.reduceAdd]
  apply wpS_open (openW w.heap.size s)
  ·intro γ W hW hp
   have zy := hp _ (mR _) (by kernel_rfl)
   dsimp only at zy
   refine ⟨rfl, ?_⟩
   go_simp
   refine plainNew rfl ?_
   obtain ⟨g3, e3, h3⟩ := zy
   rw [e3]
   exact open_W (sumWholes_eq h3 rfl (by omega) SS.out (all3 mp1 mp2 mp3)) (by (have := hW.size; (try simp only [sA, sB, sC, sD] at this); omega))
  try simp only [Act.put, List.setIfInBounds_toArray, List.set_cons_succ, List.set_cons_zero, Nat.reduceAdd]
  apply wpS_open (newBox _ _ _)
  ·intro γ W hW hp
   refine ⟨rfl, ?_⟩
   go_simp
   exact ⟨⟨⟨_, rfl, hW.size, heap_alloc_new _ _⟩, fun _ => ⟨_, rfl, Nat.le_refl _, by simp⟩⟩, (Below.refl _ _).alloc (Nat.le_refl _) _⟩
  try simp only [Act.put, List.setIfInBounds_toArray, List.set_cons_succ, List.set_cons_zero, Nat.reduceAdd]
  apply wpS_end
  intro γ w4 hb4 hG4 hA4
  have yd := hG4 _ (mL _ (mL _ (mL _ (mL _ (mL _ (mL _ (mL _ (mL _ (mL _ (mL _ (mR _)))))))))))
  dsimp only at yd
  have ye := hG4 _ (mL _ (mL _ (mL _ (mL _ (mL _ (mL _ (mL _ (mL _ (mL _ (mR _))))))))))
  dsimp only at ye
  have yf := hG4 _ (mL _ (mL _ (mL _ (mL _ (mL _ (mL _ (mL _ (mL _ (mR _)))))))))
  dsimp only at yf
  have ju := hG4 _ (mL _ (mL _ (mL _ (mL _ (mL _ (mL _ (mL _ (mR _))))))))
  dsimp only at ju
  have jv := hG4 _ (mL _ (mL _ (mL _ (mL _ (mL _ (mL _ (mR _)))))))
  dsimp only at jv
  have jw := hG4 _ (mL _ (mL _ (mL _ (mL _ (mL _ (mR _))))))
  dsimp only at jw
  have jx := hG4 _ (mL _ (mL _ (mL _ (mL _ (mR _)))))
  dsimp only at jx
  have jy := hG4 _ (mL _ (mL _ (mL _ (mR _))))
  dsimp only at jy
  have jz := hG4 _ (mL _ (mL _ (mR _)))
  dsimp only at jz
  have zb := hG4 _ (mL _ (mR _))
  dsimp only at zb
  obtain ⟨qn, za, qu, xe⟩ := hG4 _ (mR _)
  dsimp only at za qu xe
  have ya := fun o => blk_cell xe o
  have yb := fun o => blk_frozen xe o
  have yr := blk_lt' xe
  have zc : w.heap.size ≠ qn := Nat.ne_of_lt (Nat.lt_of_lt_of_le zk qu)
  have zd : w.heap.size + 1 + 1 ≠ qn := Nat.ne_of_lt (Nat.lt_of_lt_of_le zn qu)
  have ze : gx ≠ qn := Nat.ne_of_lt (Nat.lt_of_lt_of_le zp qu)
  have zf : gz ≠ qn := Nat.ne_of_lt (Nat.lt_of_lt_of_le zr qu)
  have yt : w.heap.size ≤ qn := Nat.le_trans hB3.size qu
  clear hG4 hA4
  try simp only [za]
  clear za
  simp only [List.drop_succ_cons, List.drop_zero]
  have hz4 := hb4.size
  (try simp only [sA, sB, sC, sD] at hz4)
  obtain ⟨b5, a5, n5, c5, e5, hs, -⟩ := zb
  simp only [e5]
  clear e5
  have qv := (hb4.block (w.heap.size) (blk_lt' qe.out)).trans qe.out
  clear qr qt zj qe
  obtain ⟨jb, jc, yg, yx⟩ := bk2 qv
  replace qv := Lib.hid qv
  have qw := (hb4.block (w.heap.size + 1 + 1) (blk_lt' qf.out)).trans qf.out
  clear xr xt zm qf
  obtain ⟨jd, je, yh, yz⟩ := bk2 qw
  replace qw := Lib.hid qw
  have qx := (hb4.block (gx) (blk_lt' qg.out)).trans qg.out
  clear qo qq zo qg
  obtain ⟨jf, jg, yi, va⟩ := bk2 qx
  replace qx := Lib.hid qx
  have qy := (hb4.block (gz) (blk_lt' qh.out)).trans qh.out
  clear qc qd zq qh
  obtain ⟨jh, ji, yj, vb⟩ := bk2 qy
  replace qy := Lib.hid qy
  replace hx := hx.below hb4
  replace hz := hz.below hb4
  have hB4 : Below w.heap.size w w4 := below_via hb4 (by assumption) (by go_size)
  go_wp2_with fail
  replace qv := qv.out
  replace qw := qw.out
  replace qx := qx.out
  replace qy := qy.out
  refine chk (fun W => Below w.heap.size w W ∧ W.heap[w.heap.size + 1 + 1]? = some (.cells #[.bool false, .slice none 0 0] 80 (0, 0)) ∧ W.heap[gz]? = some (.cells #[.bool b2, .slice a2 n2 c2] 80 (0, 0)) ∧ W.heap[qn]? = some (.cells #[.bool b5, .slice a5 n5 c5] 80 (0, 0)) ∧ Wx W b2 a2 n2 c2 z ∧ Wx W b5 a5 n5 c5 s) (by refine ⟨?_, ?_, ?_, ?_, ?_, ?_⟩ <;> (exact ck)) ?_
  try clear hz
  try clear hs
  clear jb jc yg qv
  clear jd je yh qw
  clear jf jg yi qx
  clear jh ji yj qy
  clear hB4
  try clear ya
  try clear yb
  try clear xe
  rintro w5 ⟨hB5, qz, xc, xd, hz', hs'⟩
  obtain ⟨jj, jk, yk, vc⟩ := bk2 qz
  replace qz := Lib.hid qz
  obtain ⟨xu, xv, yl, vd⟩ := bk2 xc
  replace xc := Lib.hid xc
  obtain ⟨xw, xy, ym, vf⟩ := bk2 xd
  replace xd := Lib.hid xd
  have hz := hz'
  clear hz'
  have hs := hs'
  clear hs'
  clear hA hBB hx lx mp1 mp2 mp3 lA lB
  refine wp_open (n := 5) (by kernel_rfl) (by kernel_rfl) (by kernel_rfl) (by kernel_rfl) ?_
  simp only [List.take_succ_cons, List.take_zero]
  apply wpS_open (openW w.heap.size 4)
  ·intro γ W hW hp
   refine ⟨rfl, ?_⟩
   go_simp
   refine plainNew rfl ?_
   exact open_W (wholeOf_any 4 W (by omega) (by omega)) (by (have := hW.size; (try simp only [sA, sB, sC, sD] at this); omega))
  try simp only [Act.put, List.setIfInBounds_toArray, List.set_cons_succ, List.set_cons_zero, Nat.reduceAdd]
  apply wpS_quiet
  ·intro γ W hW hp
   have hs := hW.size
   (try simp only [sA, sB, sC, sD] at hs)
   have qi := fun x => (xcA hW (gz) 0 (by first | omega | go_size) x).trans xu
   have qj := fun x => (xcA hW (gz) 1 (by first | omega | go_size) x).trans xv
   clear hW hp
   refine ⟨rfl, ?_⟩
   go_big_quiet_op
   first | exact rfl
  ·exact locS_const _
  try simp only [Act.put, List.setIfInBounds_toArray, List.set_cons_succ, List.set_cons_zero, Nat.reduceAdd]
  apply wpS_quiet
  ·intro γ W hW hp
   have hs := hW.size
   (try simp only [sA, sB, sC, sD] at hs)
   have qi := fun x => (xcA hW (qn) 0 (by first | omega | go_size) x).trans xw
   have qj := fun x => (xcA hW (qn) 1 (by first | omega | go_size) x).trans xy
   clear hW hp
   refine ⟨rfl, ?_⟩
   go_big_quiet_op
   first | exact rfl
  ·exact locS_const _
  try simp only [Act.put, List.setIfInBounds_toArray, List.set_cons_succ, List.set_cons_zero, Nat.reduceAdd]
  apply wpS_open (openL 3 [4, z, s])
  ·intro γ W hW hp
   have yc := hp _ (mR _) (by kernel_rfl)
   dsimp only at yc
   refine ⟨rfl, ?_⟩
   obtain ⟨b3, a3, n3, c3, e3, h3, _⟩ := yc
   rw [e3]
   go_simp
   exact ⟨⟨⟨_, rfl, LxAt.new3 h3 (hz.below hW) (hs.below hW)⟩, fun e => by cases e⟩, (Below.refl _ _).alloc (Nat.le_refl _) _⟩
  try simp only [Act.put, List.setIfInBounds_toArray, List.set_cons_succ, List.set_cons_zero, Nat.reduceAdd]
  apply wpS_open (openW w.heap.size t)
  ·intro γ W hW hp
   have xi := hp _ (mR _) (by kernel_rfl)
   dsimp only at xi
   refine ⟨rfl, ?_⟩
   go_simp
   refine plainNew rfl ?_
   obtain ⟨g3, e3, h3⟩ := xi
   rw [e3]
   exact open_W (productWholes_eq h3 rfl (by omega) RT.out (all3 l4 lz ms)) (by (have := hW.size; (try simp only [sA, sB, sC, sD] at this); omega))
  try simp only [Act.put, List.setIfInBounds_toArray, List.set_cons_succ, List.set_cons_zero, Nat.reduceAdd]
  apply wpS_end
  intro γ w6 hb6 hG6 hA6
  have yn := hG6 _ (mL _ (mL _ (mR _)))
  dsimp only at yn
  have yo := hG6 _ (mL _ (mR _))
  dsimp only at yo
  have ja := hG6 _ (mR _)
  dsimp only at ja
  clear hG6 hA6
  simp only [List.drop_succ_cons, List.drop_zero]
  have hz6 := hb6.size
  (try simp only [sA, sB, sC, sD] at hz6)
  obtain ⟨b7, a7, n7, c7, e7, h7, f7⟩ := ja
  simp only [e7]
  clear e7
  have xf := (hb6.block (w.heap.size + 1 + 1) (blk_lt' qz.out)).trans qz.out
  clear jj jk yk qz
  obtain ⟨jl, jm, vg, vh⟩ := bk2 xf
  replace xf := Lib.hid xf
  have xg := (hb6.block (gz) (blk_lt' xc.out)).trans xc.out
  clear xu xv yl xc
  obtain ⟨jn, jo, yp, vi⟩ := bk2 xg
  replace xg := Lib.hid xg
  have xh := (hb6.block (qn) (blk_lt' xd.out)).trans xd.out
  clear xw xy ym xd
  obtain ⟨jp, jq, yq, vj⟩ := bk2 xh
  replace xh := Lib.hid xh
  replace hz := hz.below hb6
  replace hs := hs.below hb6
  have hB6 : Below w.heap.size w w6 := below_via hb6 (by assumption) (by go_size)
  clear jn
  clear jo
  clear yp xg
  clear jp
  clear jq
  clear yq xh
  try clear zc
  try clear zd
  try clear ze
  try clear zf
  clear hz hs lz l4 ms
  iterate 24 (first | (with_reducible show bodyPost _ _ _ _ _ _) | (with_reducible refine wp_ret ?_) | go_values | go_skip | go_guarded | go_step | go_upon | go_back | skip)
  refine bodyPost_ret (v := .agg #[.bool b7, .slice a7 n7 c7]) (by simp [results, Tryz.results104, go_sem, jl, jm]) rfl ⟨_, _, _, _, rfl, ?_, f7, ?_⟩
  ·have HO := xf.out
   (exact ck)
  ·(exact ck)
end
section
open Go.RowKit
set_option linter.unusedVariables false
set_option maxHeartbeats 1000000
set_option maxRecDepth 20000
set_option linter.unusedSimpArgs false
attribute [local go_sem] openAt openUpon
def openV (u : Value) : St where
 ok v W := v = u
 keep v W W2 h hb := h
theorem open_V {P : Program} {f : FuncId} {args : Array Value} {W : World} {u : Value} (h : Calls P f args W fun e w' => e = .returned u ∧ Below W.heap.size W w') : Calls P f args W fun e w' => ∃ v, e = .returned v ∧ (openV u).ok v w' ∧ Below W.heap.size W w' :=
 h.mono fun e w' ⟨h1, h2⟩ => ⟨_, h1, rfl, h2⟩
theorem divisorWith_eq {b : Bool} {a : Option Addr} {n c : Nat} {z d v : Int} {w : World} (hs : Wx w b a n c z) (l1 : ln z ≤ 9000) (hd : 1 ≤ d) (hd2 : d ≤ 100000000000000) (ev : gcdI (ab z % d) d = v) :
  Calls Tryz.prog 134 #[.agg #[.bool b, .slice a n c], .int .i64 d] w fun e w' => e = .returned (.int .i64 v) ∧ Below w.heap.size w w' := by
 have hl : n ≤ 9000 := by have := hs.ln; omega
 have EV := Lib.hid ev
 have l2 : ln (ab z) ≤ 9000 := by rw [ln_ab]; exact l1
 have m1 := Int.emod_nonneg (ab z) (b := d) (by omega)
 have m2 := Int.emod_lt_of_pos (ab z) (b := d) (by omega)
 clear ev
 have tok1 := trivial
 have tok2 := trivial
 go_enter Tryz.func134, Tryz.ntmps134
 go_wp2_with (first | (have _t := tok1; go_at_call 126; (with_reducible refine ((absolute_any b a n c z _ (hs.below bel) (by omega))).mono ?_); rintro e w1 ⟨b1, a1, n1, c1, rfl, h1, f1, hb1⟩; clear tok1 _t; have hz1 := hb1.size; (try simp only [sA, sB, sC, sD] at hz1); (try (obtain ⟨kq, qe⟩ := cfAt hb1 (w.heap.size); have qc := kq 0; have qd := kq 1; clear kq; simp [go_sem, *] at qc qd qe)); (try have qh : w.heap.size < w1.heap.size := by omega)) | (have _t := tok2; go_at_call 123; (with_reducible refine ((divWhole_any h1 (by omega) hd hd2)).mono ?_); rintro e w2 ⟨b2, a2, n2, c2, rfl, h2, f2, hb2⟩; clear tok2 _t; have hz2 := hb2.size; (try simp only [sA, sB, sC, sD] at hz2); (try (obtain ⟨kq, qi⟩ := cfAt hb2 (w.heap.size); have qf := kq 0; have qg := kq 1; clear kq; simp [go_sem, *] at qf qg qi)); (try have qj : w.heap.size < w2.heap.size := by omega); (try clear qc qd qe); (try clear qh)) | (go_at_call 36; refine (gcd_any _ _ _ (by omega) (by omega) (by omega) (by omega)).mono ?_; rintro e w' ⟨rfl, nq, rfl⟩))
 go_ret
 refine ⟨ret_int EV.out, ?_⟩
 exact bel
theorem divisorTaken_eq {A B x z t s v : Int} {b b2 : Bool} {a a2 : Option Addr} {n c n2 c2 : Nat} {w : World} (hA : -1000 ≤ A ∧ A ≤ 1000) (hBB : -10000 ≤ B ∧ B ≤ 10000) (hcv : coV A B ≠ 0) (hx : Wx w b a n c x) (hz : Wx w b2 a2 n2 c2 z) (lx' : ln x ≤ 80) (lz' : ln z ≤ 80) (et : topZ A B x z = t) (es : botZ A B x z = s) (ev : dvZ (4 * absI (coV A B)) t s = v) :
  Calls Tryz.prog 122 #[.agg #[.int .i64 A, .int .i64 B], .agg #[.bool b, .slice a n c, .bool b2, .slice a2 n2 c2]] w fun e w' => e = .returned (.int .i64 v) ∧ Below w.heap.size w w' := by
 have hcb := coV_bd hA hBB
 obtain ⟨N, hN⟩ : ∃ N, 4 * absI (coV A B) = N := ⟨_, rfl⟩
 have hN1 : 1 ≤ N := by rw [← hN]; unfold absI; omega
 have hN2 : N ≤ 100000000000000 := by rw [← hN]; unfold absI; omega
 have hmx : ∀ (w : World) (ts : Array TypeId) (t : TypeId), (Builtin.max_ ts t #[.int .i64 (4 * coV A B), .int .i64 (-4 * coV A B)]).run Tryz.prog w = .ok (.int .i64 N) w := fun w ts t => by
  rw [← hN]
  by_cases h' : 4 * coV A B ≤ -4 * coV A B
  ·simp [go_sem, h']; unfold absI; omega
  ·simp [go_sem, h']; unfold absI; omega
 obtain ⟨g1, hg1⟩ : ∃ v, gcdI (ab t % N) N = v := ⟨_, rfl⟩
 have hv : gcdI (ab s % g1) g1 = v := by rw [← ev, ← hg1, hN]; exact dv_impl (by omega)
 have hg2 : 1 ≤ g1 := by rw [← hg1]; exact gcdI_pos (by omega)
 have hg3 : g1 ≤ N := by
  rw [← hg1]
  have := gcdI_le (a := ab t % N) (b := N) (by omega)
  have e : absI N = N := by unfold absI; omega
  omega
 have lt' : ln t ≤ 9000 := by
  rw [← et]; unfold topZ
  have a1 := ln_small (a := 2 * A) (by omega) (by omega)
  have a2 := ln_small (a := 8 * B) (by omega) (by omega)
  have hAA := mul_bd (a := A) (b := A) (A := 1000) (B := 1000) (by omega) (by omega)
  have a3 := ln_small (a := A * A) (by omega) (by omega)
  have xx := ln_mul_le lx' lx'
  have zz := ln_mul_le lz' lz'
  have xz := ln_mul_le lx' lz'
  have b1 : ln (x * x * (x * x)) ≤ 330 := Nat.le_trans (ln_mul_le xx xx) (by omega)
  have b2 : ln (x * x * (z * z) * (2 * A)) ≤ 330 := Nat.le_trans (ln_mul_le (ln_mul_le xx zz) a1) (by omega)
  have b3 : ln (x * z * (z * z) * (8 * B)) ≤ 331 := Nat.le_trans (ln_mul_le (ln_mul_le xz zz) a2) (by omega)
  have b4 : ln (z * z * (z * z) * (A * A)) ≤ 332 := Nat.le_trans (ln_mul_le (ln_mul_le zz zz) a3) (by omega)
  exact Nat.le_trans (ln_add_le (ln_sub_le (ln_sub_le b1 b2) b3) b4) (by omega)
 have ls' : ln s ≤ 9000 := by
  rw [← es]; unfold botZ
  have a1 := ln_small (a := A) (by omega) (by omega)
  have a2 := ln_small (a := B) (by omega) (by omega)
  have a4 := ln_small (a := 4) (by omega) (by omega)
  have zz := ln_mul_le lz' lz'
  have b1 : ln (x * x * x) ≤ 330 := Nat.le_trans (ln_mul_le (ln_mul_le lx' lx') lx') (by omega)
  have b2 : ln (x * (z * z) * A) ≤ 330 := Nat.le_trans (ln_mul_le (ln_mul_le lx' zz) a1) (by omega)
  have b3 : ln (z * (z * z) * B) ≤ 331 := Nat.le_trans (ln_mul_le (ln_mul_le lz' zz) a2) (by omega)
  exact Nat.le_trans (ln_mul_le (ln_mul_le lz' (ln_add_le (ln_add_le b1 b2) b3)) a4) (by omega)
 have HV := Lib.hid hv
 have HG := Lib.hid hg1
 have ET := Lib.hid et
 have ES := Lib.hid es
 clear ev hN hv hg1 et es
 go_enter Tryz.func122, Tryz.ntmps122
 go_wp2_with fail
 refine chk (fun W => Below w.heap.size w W ∧ W.heap[w.heap.size]? = some (.cells #[.int .i64 A, .int .i64 B] 32 (0, 0)) ∧ W.heap[w.heap.size + 1]? = some (.cells #[.bool b, .slice a n c, .bool b2, .slice a2 n2 c2] 107 (0, 0)) ∧ Wx W b a n c x ∧ Wx W b2 a2 n2 c2 z) (by refine ⟨?_, ?_, ?_, ?_, ?_⟩ <;> (exact ck)) ?_
 try clear hx
 try clear hz
 rintro w1 ⟨hB1, qc, qd, hx', hz'⟩
 obtain ⟨qe, qf, xc, xj⟩ := bk2 qc
 replace qc := Lib.hid qc
 obtain ⟨qt, qu, qv, qw, xd, xk⟩ := bk4 qd
 replace qd := Lib.hid qd
 have hx := hx'
 clear hx'
 have hz := hz'
 clear hz'
 refine wp_open (n := 7) (by kernel_rfl) (by kernel_rfl) (by kernel_rfl) (by kernel_rfl) ?_
 simp only [List.take_succ_cons, List.take_zero]
 apply wpS_quiet
 ·intro γ W hW hp
  have hs := hW.size
  (try simp only [sA, sB, sC, sD] at hs)
  have qg := fun x => (xcA hW (w.heap.size) 0 (by first | omega | go_size) x).trans qe
  have qh := fun x => (xcA hW (w.heap.size) 1 (by first | omega | go_size) x).trans qf
  clear hW hp
  refine ⟨rfl, ?_⟩
  go_big_quiet_op
  first | exact rfl
 ·exact locS_const _
 try simp only [Act.put, List.setIfInBounds_toArray, List.set_cons_succ, List.set_cons_zero, Nat.reduceAdd]
 apply wpS_quiet
 ·intro γ W hW hp
  refine ⟨rfl, ?_⟩
  go_big_quiet_op
  apply Exists.intro
  refine ⟨fun x => ?_, ?_⟩
  ·(first | (go_at_call 65; exact draw_of _ (core_any A B _ hA hBB)))
  exact rfl
 ·exact locS_const _
 try simp only [Act.put, List.setIfInBounds_toArray, List.set_cons_succ, List.set_cons_zero, Nat.reduceAdd]
 apply wpS_quiet
 ·intro γ W hW hp
  refine ⟨rfl, ?_⟩
  go_big_quiet_op
  first | exact rfl
 ·exact locS_const _
 try simp only [Act.put, List.setIfInBounds_toArray, List.set_cons_succ, List.set_cons_zero, Nat.reduceAdd]
 apply wpS_quiet
 ·intro γ W hW hp
  have hs := hW.size
  (try simp only [sA, sB, sC, sD] at hs)
  have qg := fun x => (xcA hW (w.heap.size) 0 (by first | omega | go_size) x).trans qe
  have qh := fun x => (xcA hW (w.heap.size) 1 (by first | omega | go_size) x).trans qf
  clear hW hp
  refine ⟨rfl, ?_⟩
  go_big_quiet_op
  first | exact rfl
 ·exact locS_const _
 try simp only [Act.put, List.setIfInBounds_toArray, List.set_cons_succ, List.set_cons_zero, Nat.reduceAdd]
 apply wpS_quiet
 ·intro γ W hW hp
  refine ⟨rfl, ?_⟩
  go_big_quiet_op
  apply Exists.intro
  refine ⟨fun x => ?_, ?_⟩
  ·(first | (go_at_call 65; exact draw_of _ (core_any A B _ hA hBB)))
  exact rfl
 ·exact locS_const _
 try simp only [Act.put, List.setIfInBounds_toArray, List.set_cons_succ, List.set_cons_zero, Nat.reduceAdd]
 apply wpS_quiet
 ·intro γ W hW hp
  refine ⟨rfl, ?_⟩
  go_big_quiet_op
  first | exact rfl
 ·exact locS_const _
 try simp only [Act.put, List.setIfInBounds_toArray, List.set_cons_succ, List.set_cons_zero, Nat.reduceAdd]
 apply wpS_quiet
 ·intro γ W hW hp
  refine ⟨rfl, ?_⟩
  go_big_quiet_op
  first | exact rfl
 ·exact locS_const _
 try simp only [Act.put, List.setIfInBounds_toArray, List.set_cons_succ, List.set_cons_zero, Nat.reduceAdd]
 apply wpS_end
 intro γ w2 hb2 hG2 hA2
 clear hG2 hA2
 simp only [List.drop_succ_cons, List.drop_zero]
 have hz2 := hb2.size
 (try simp only [sA, sB, sC, sD] at hz2)
 have qo := (hb2.block (w.heap.size) (blk_lt' qc.out)).trans qc.out
 clear qe qf xc qc
 obtain ⟨qi, qj, xl, xm⟩ := bk2 qo
 replace qo := Lib.hid qo
 have qq := (hb2.block (w.heap.size + 1) (blk_lt' qd.out)).trans qd.out
 clear qt qu qv qw xd qd
 obtain ⟨qk, ql, qm, qn, xn, xo⟩ := bk4 qq
 replace qq := Lib.hid qq
 replace hx := hx.below hb2
 replace hz := hz.below hb2
 have hB2 : Below w.heap.size w w2 := below_via hb2 (by assumption) (by go_size)
 go_wp2_with fail
 refine wp_open (n := 9) (by kernel_rfl) (by kernel_rfl) (by kernel_rfl) (by kernel_rfl) ?_
 simp only [List.take_succ_cons, List.take_zero]
 apply wpS_quiet
 ·intro γ W hW hp
  have hs := hW.size
  (try simp only [sA, sB, sC, sD] at hs)
  have qg := fun x => (xcA hW (w.heap.size) 0 (by first | omega | go_size) x).trans qi
  have qh := fun x => (xcA hW (w.heap.size) 1 (by first | omega | go_size) x).trans qj
  clear hW hp
  refine ⟨rfl, ?_⟩
  go_big_quiet_op
  first | exact rfl
 ·exact locS_const _
 try simp only [Act.put, List.setIfInBounds_toArray, List.set_cons_succ, List.set_cons_zero, Nat.reduceAdd]
 apply wpS_quiet
 ·intro γ W hW hp
  have hs := hW.size
  (try simp only [sA, sB, sC, sD] at hs)
  have qg := fun x => (xcA hW (w.heap.size + 1) 0 (by first | omega | go_size) x).trans qk
  have qh := fun x => (xcA hW (w.heap.size + 1) 1 (by first | omega | go_size) x).trans ql
  have xh := fun x => (xcA hW (w.heap.size + 1) 2 (by first | omega | go_size) x).trans qm
  have xi := fun x => (xcA hW (w.heap.size + 1) 3 (by first | omega | go_size) x).trans qn
  clear hW hp
  refine ⟨rfl, ?_⟩
  go_big_quiet_op
  first | exact rfl
 ·exact locS_const _
 try simp only [Act.put, List.setIfInBounds_toArray, List.set_cons_succ, List.set_cons_zero, Nat.reduceAdd]
 apply wpS_open (openW w.heap.size s)
 ·intro γ W hW hp
  refine ⟨rfl, ?_⟩
  go_simp
  refine plainNew rfl ?_
  exact open_W (denominatorOf_eq hA hBB (hx.below hW) (hz.below hW) lx' lz' ES.out) (by (have := hW.size; (try simp only [sA, sB, sC, sD] at this); omega))
 try simp only [Act.put, List.setIfInBounds_toArray, List.set_cons_succ, List.set_cons_zero, Nat.reduceAdd]
 apply wpS_quiet
 ·intro γ W hW hp
  have hs := hW.size
  (try simp only [sA, sB, sC, sD] at hs)
  have qg := fun x => (xcA hW (w.heap.size) 0 (by first | omega | go_size) x).trans qi
  have qh := fun x => (xcA hW (w.heap.size) 1 (by first | omega | go_size) x).trans qj
  clear hW hp
  refine ⟨rfl, ?_⟩
  go_big_quiet_op
  first | exact rfl
 ·exact locS_const _
 try simp only [Act.put, List.setIfInBounds_toArray, List.set_cons_succ, List.set_cons_zero, Nat.reduceAdd]
 apply wpS_quiet
 ·intro γ W hW hp
  have hs := hW.size
  (try simp only [sA, sB, sC, sD] at hs)
  have qg := fun x => (xcA hW (w.heap.size + 1) 0 (by first | omega | go_size) x).trans qk
  have qh := fun x => (xcA hW (w.heap.size + 1) 1 (by first | omega | go_size) x).trans ql
  have xh := fun x => (xcA hW (w.heap.size + 1) 2 (by first | omega | go_size) x).trans qm
  have xi := fun x => (xcA hW (w.heap.size + 1) 3 (by first | omega | go_size) x).trans qn
  clear hW hp
  refine ⟨rfl, ?_⟩
  go_big_quiet_op
  first | exact rfl
 ·exact locS_const _
 try simp only [Act.put, List.setIfInBounds_toArray, List.set_cons_succ, List.set_cons_zero, Nat.reduceAdd]
 apply wpS_open (openW w.heap.size t)
 ·intro γ W hW hp
  refine ⟨rfl, ?_⟩
  go_simp
  refine plainNew rfl ?_
  exact open_W (numeratorOf_eq hA hBB (hx.below hW) (hz.below hW) lx' lz' ET.out) (by (have := hW.size; (try simp only [sA, sB, sC, sD] at this); omega))
 try simp only [Act.put, List.setIfInBounds_toArray, List.set_cons_succ, List.set_cons_zero, Nat.reduceAdd]
 apply wpS_quiet
 ·intro γ W hW hp
  refine ⟨rfl, ?_⟩
  go_big_quiet_op
  first | exact rfl
 ·exact locS_const _
 try simp only [Act.put, List.setIfInBounds_toArray, List.set_cons_succ, List.set_cons_zero, Nat.reduceAdd]
 apply wpS_open (openV (.int .i64 g1))
 ·intro γ W hW hp
  have qx := hp _ (mR _) (by kernel_rfl)
  dsimp only at qx
  refine ⟨rfl, ?_⟩
  go_simp
  refine plainNew rfl ?_
  obtain ⟨b3, a3, n3, c3, e3, h3, _⟩ := qx
  rw [e3]
  exact open_V (divisorWith_eq h3 lt' hN1 hN2 HG.out)
 try simp only [Act.put, List.setIfInBounds_toArray, List.set_cons_succ, List.set_cons_zero, Nat.reduceAdd]
 apply wpS_open (openV (.int .i64 v))
 ·intro γ W hW hp
  have qy := hp _ (mL _ (mL _ (mR _))) (by kernel_rfl)
  dsimp only at qy
  have qz := hp _ (mR _) (by kernel_rfl)
  dsimp only at qz
  refine ⟨rfl, ?_⟩
  go_simp
  refine plainNew rfl ?_
  obtain ⟨b3, a3, n3, c3, e3, h3, _⟩ := qy
  have e4 : γ 7 = _ := qz
  rw [e3, e4]
  exact open_V (divisorWith_eq h3 ls' hg2 (by omega) HV.out)
 try simp only [Act.put, List.setIfInBounds_toArray, List.set_cons_succ, List.set_cons_zero, Nat.reduceAdd]
 apply wpS_end
 intro γ w3 hb3 hG3 hA3
 have xe := hG3 _ (mL _ (mL _ (mL _ (mR _))))
 dsimp only at xe
 have xf := hG3 _ (mL _ (mL _ (mR _)))
 dsimp only at xf
 have xg := hG3 _ (mL _ (mR _))
 dsimp only at xg
 have qr := hG3 _ (mR _)
 dsimp only at qr
 clear hG3 hA3
 simp only [List.drop_succ_cons, List.drop_zero]
 have hz3 := hb3.size
 (try simp only [sA, sB, sC, sD] at hz3)
 have e8 : γ 8 = .int .i64 v := qr
 simp only [e8]
 go_wp2_with fail
 go_ret
 refine ⟨rfl, ?_⟩
 exact bel
end
end Go.Proofs.YtnkmgpmehkholaaGreat
