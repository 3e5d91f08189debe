/- Lemmas and contracts of functions. No condition. -/
import Derived.Test.YtnkmgpmehkholaaGreatPk13
import Derived.Test.YtnkmgpmehkholaaGreatPk23
import Derived.Test.YtnkmgpmehkholaaGreatPk32
namespace Go.Proofs.YtnkmgpmehkholaaGreat
section
open Go.RowKit
set_option linter.unusedVariables false
set_option maxHeartbeats 1000000
set_option maxRecDepth 20000
set_option linter.unusedSimpArgs false
attribute [local go_sem] openAt openUpon
theorem bgMul_eq {b b2 : Bool} {a a2 : Option Addr} {n c n2 c2 : Nat} {x y v : Int} {W : World} (h1 : Wx W b a n c x) (h2 : Wx W b2 a2 n2 c2 y) (e : x * y = v) (l1 : ln x ≤ 10000) (l2 : ln y ≤ 10000) :
  Calls Tryz.prog 111 #[.agg #[.bool b, .slice a n c], .agg #[.bool b2, .slice a2 n2 c2]] W (NewW W v) := by
 subst e; exact bgMul_any b b2 a a2 n c n2 c2 x y W h1 h2 (by have := h1.ln; omega) (by have := h2.ln; omega)
theorem bgTimes_eq {b : Bool} {a : Option Addr} {n c : Nat} {x d v : Int} {W : World} (h1 : Wx W b a n c x) (e : x * d = v) (l1 : ln x ≤ 10000) (hd : -9223372036854775807 ≤ d ∧ d ≤ 9223372036854775807) :
  Calls Tryz.prog 112 #[.agg #[.bool b, .slice a n c], .int .i64 d] W (NewW W v) := by
 subst e; exact bgTimes_any b a n c x d W h1 (by have := h1.ln; omega) hd.1 hd.2
theorem bgSub_eq {b b2 : Bool} {a a2 : Option Addr} {n c n2 c2 : Nat} {x y v : Int} {W : World} (h1 : Wx W b a n c x) (h2 : Wx W b2 a2 n2 c2 y) (e : x - y = v) (l1 : ln x ≤ 10000) (l2 : ln y ≤ 10000) :
  Calls Tryz.prog 131 #[.agg #[.bool b, .slice a n c], .agg #[.bool b2, .slice a2 n2 c2]] W (NewW W v) := by
 subst e; exact bgSub_any b b2 a a2 n c n2 c2 x y W h1 h2 (by have := h1.ln; omega) (by have := h2.ln; omega)
theorem bgAdd_eq {b b2 : Bool} {a a2 : Option Addr} {n c n2 c2 : Nat} {x y v : Int} {W : World} (h1 : Wx W b a n c x) (h2 : Wx W b2 a2 n2 c2 y) (e : x + y = v) (l1 : ln x ≤ 10000) (l2 : ln y ≤ 10000) :
  Calls Tryz.prog 110 #[.agg #[.bool b, .slice a n c], .agg #[.bool b2, .slice a2 n2 c2]] W (NewW W v) := by
 subst e; exact bgAdd_any b b2 a a2 n c n2 c2 x y W h1 h2 (by have := h1.ln; omega) (by have := h2.ln; omega)
theorem xdSquare_eq {b : Bool} {a : Option Addr} {n c : Nat} {x v : Int} {w : World} (hs : Wx w b a n c x) (e : x * x = v) (l1 : ln x ≤ 10000) :
  Calls Tryz.prog 109 #[.agg #[.bool b, .slice a n c]] w (NewW w v) := by
 have E := Lib.hid e
 clear e
 have e := E.out
 replace e := Lib.hid e
 have tok1 := trivial
 go_enter Tryz.func109, Tryz.ntmps109
 go_wp2_with (first | (have _t := tok1; go_at_call 111; (with_reducible refine ((bgMul_eq (hs.below bel) (hs.below bel) E.out l1 l1)).mono ?_); rintro e w1 ⟨b7, a7, n7, c7, rfl, h7, f7, hb1⟩; clear tok1 _t; have hz1 := hb1.size; (try simp only [sA, sB, sC, sD] at hz1); (try (obtain ⟨kq, qe⟩ := cfAt hb1 (w.heap.size); have qa := kq 0; have qb := kq 1; clear kq; simp [go_sem, *] at qa qb qe)); (try have qg : w.heap.size < w1.heap.size := by omega); (try (obtain ⟨kq, qf⟩ := cfAt hb1 (w.heap.size + 1); have qc := kq 0; have qd := kq 1; clear kq; simp [go_sem, *] at qc qd qf)); (try have qh : w.heap.size + 1 < w1.heap.size := by omega)))
 refine bodyPost_ret (v := .agg #[.bool b7, .slice a7 n7 c7]) (by simp [results, Tryz.results109, go_sem, *]) rfl ⟨_, _, _, _, rfl, ⟨h7.neg, ?_⟩, ?_, ?_⟩
 ·have hr7 := h7.row
  (repeat' first | exact hr7 | refine Sx.set ?_ ?_ _ _ | refine Sx.alloc ?_ _ | refine Sx.drew ?_ | (intro A e; have := f7 A e; (try simp only [sA, sB, sC, sD] at this); omega))
 ·(intro A e; have := f7 A e; (try simp only [sA, sB, sC, sD] at this); omega)
 exact bel
theorem xdTop_any (A B x z : Int) (b b2 : Bool) (a a2 : Option Addr) (n c n2 c2 : Nat) (w : World) (hA : -1000 ≤ A ∧ A ≤ 1000) (hBB : -10000 ≤ B ∧ B ≤ 10000) (hx : Wx w b a n c x) (hz : Wx w b2 a2 n2 c2 z) (lx : ln x ≤ 80) (lz : ln z ≤ 80) :
  Calls Tryz.prog 113 #[.agg #[.int .i64 A, .int .i64 B], .agg #[.bool b, .slice a n c, .bool b2, .slice a2 n2 c2]] w (NewW w (topZ A B x z)) := by
 obtain ⟨x2, hx2⟩ : ∃ v, x * x = v := ⟨_, rfl⟩
 obtain ⟨z2, hz2⟩ : ∃ v, z * z = v := ⟨_, rfl⟩
 obtain ⟨p1, hp1⟩ : ∃ v, x2 * x2 = v := ⟨_, rfl⟩
 obtain ⟨p2, hp2⟩ : ∃ v, x2 * z2 = v := ⟨_, rfl⟩
 obtain ⟨p3, hp3⟩ : ∃ v, p2 * (2 * A) = v := ⟨_, rfl⟩
 obtain ⟨p4, hp4⟩ : ∃ v, p1 - p3 = v := ⟨_, rfl⟩
 obtain ⟨q1, hq1⟩ : ∃ v, x * z = v := ⟨_, rfl⟩
 obtain ⟨q2, hq2⟩ : ∃ v, q1 * z2 = v := ⟨_, rfl⟩
 obtain ⟨q3, hq3⟩ : ∃ v, q2 * (8 * B) = v := ⟨_, rfl⟩
 obtain ⟨q4, hq4⟩ : ∃ v, p4 - q3 = v := ⟨_, rfl⟩
 obtain ⟨r1, hr1⟩ : ∃ v, z2 * z2 = v := ⟨_, rfl⟩
 obtain ⟨r2, hr2⟩ : ∃ v, r1 * (A * A) = v := ⟨_, rfl⟩
 obtain ⟨t, ht0⟩ : ∃ v, topZ A B x z = v := ⟨_, rfl⟩
 have RT := Lib.hid (show q4 + r2 = t by rw [← ht0]; subst hx2 hz2 hp1 hp2 hp3 hp4 hq1 hq2 hq3 hq4 hr1 hr2; rfl)
 have hAA := mul_bd (a := A) (b := A) (A := 1000) (B := 1000) (by omega) (by omega)
 have l2A := ln_small (a := 2 * A) (by omega) (by omega)
 have l8B := ln_small (a := 8 * B) (by omega) (by omega)
 have lAA := ln_small (a := A * A) (by omega) (by omega)
 have m1 : ln x2 ≤ 160 := by rw [← hx2]; exact ln_mul_le lx lx
 have m2 : ln z2 ≤ 160 := by rw [← hz2]; exact ln_mul_le lz lz
 have m3 : ln p1 ≤ 320 := by rw [← hp1]; exact ln_mul_le m1 m1
 have m4 : ln p2 ≤ 320 := by rw [← hp2]; exact ln_mul_le m1 m2
 have m5 : ln p3 ≤ 325 := by rw [← hp3]; exact ln_mul_le m4 l2A
 have m6 : ln p4 ≤ 326 := by rw [← hp4]; exact ln_sub_le (by omega) m5
 have m7 : ln q1 ≤ 160 := by rw [← hq1]; exact ln_mul_le lx lz
 have m8 : ln q2 ≤ 320 := by rw [← hq2]; exact ln_mul_le m7 m2
 have m9 : ln q3 ≤ 325 := by rw [← hq3]; exact ln_mul_le m8 l8B
 have m10 : ln q4 ≤ 327 := by rw [← hq4]; exact ln_sub_le m6 (by omega)
 have m11 : ln r1 ≤ 320 := by rw [← hr1]; exact ln_mul_le m2 m2
 have m12 : ln r2 ≤ 325 := by rw [← hr2]; exact ln_mul_le m11 lAA
 rw [ht0]
 have X2 := Lib.hid hx2; have Z2 := Lib.hid hz2; have P1 := Lib.hid hp1; have P2 := Lib.hid hp2; have P3 := Lib.hid hp3; have P4 := Lib.hid hp4
 have Q1 := Lib.hid hq1; have Q2 := Lib.hid hq2; have Q3 := Lib.hid hq3; have Q4 := Lib.hid hq4; have R1 := Lib.hid hr1; have R2 := Lib.hid hr2
 clear hx2 hz2 hp1 hp2 hp3 hp4 hq1 hq2 hq3 hq4 hr1 hr2 ht0 l2A l8B lAA
 go_enter Tryz.func113, Tryz.ntmps113
 go_wp2_with fail
 refine chk (fun W => Below w.heap.size w W ∧ W.heap[w.heap.size]? = some (.cells #[.int .i64 A, .int .i64 B] 32 (0, 0)) ∧ W.heap[w.heap.size + 1]? = some (.cells #[.bool b, .slice a n c, .bool b2, .slice a2 n2 c2] 107 (0, 0)) ∧ W.heap[w.heap.size + 1 + 1]? = some (.cells #[.bool false, .slice none 0 0] 80 (0, 0)) ∧ Wx W b a n c x ∧ Wx W b2 a2 n2 c2 z) (by refine ⟨?_, ?_, ?_, ?_, ?_, ?_⟩ <;> (exact ck)) ?_
 try clear hx
 try clear hz
 rintro w1 ⟨hB1, qj, qk, ql, hx', hz'⟩
 obtain ⟨zr, zt, yz, dg⟩ := bk2 qj
 replace qj := Lib.hid qj
 obtain ⟨zu, zv, zw, zx, va, dh⟩ := bk4 qk
 replace qk := Lib.hid qk
 obtain ⟨zy, ja, vb, di⟩ := bk2 ql
 replace ql := Lib.hid ql
 have hx := hx'
 clear hx'
 have hz := hz'
 clear hz'
 go_region
 go_wp2_with fail
 replace qj := qj.out
 replace qk := qk.out
 replace ql := ql.out
 refine chk (fun W => Below w.heap.size w W ∧ W.heap[w.heap.size]? = some (.cells #[.int .i64 A, .int .i64 B] 32 (0, 0)) ∧ W.heap[w.heap.size + 1 + 1]? = some (.cells #[.bool false, .slice none 0 0] 80 (0, 0)) ∧ W.heap[w1.heap.size]? = some (.cells #[.bool b, .slice a n c] 80 (0, 0)) ∧ W.heap[w1.heap.size + 1]? = some (.cells #[.bool b2, .slice a2 n2 c2] 80 (0, 0)) ∧ Wx W b a n c x ∧ Wx W b2 a2 n2 c2 z) (by refine ⟨?_, ?_, ?_, ?_, ?_, ?_, ?_⟩ <;> (exact ck)) ?_
 try clear hx
 try clear hz
 clear zr zt yz qj
 clear zu zv zw zx va qk
 clear zy ja vb ql
 clear hB1
 rintro w3 ⟨hB3, qf, qg, qh, qi, hx', hz'⟩
 obtain ⟨jb, jc, vc, jy⟩ := bk2 qf
 replace qf := Lib.hid qf
 obtain ⟨jd, je, vd, jz⟩ := bk2 qg
 replace qg := Lib.hid qg
 obtain ⟨zd, ze, vf, ya⟩ := bk2 qh
 replace qh := Lib.hid qh
 obtain ⟨zf, zg, vg, yb⟩ := bk2 qi
 replace qi := Lib.hid qi
 have hx := hx'
 clear hx'
 have hz := hz'
 clear hz'
 generalize w1.heap.size + 1 = gz at *
 generalize w1.heap.size = gx at *
 clear w1
 rotate_left
 go_wp2_with fail
 replace qj := qj.out
 replace qk := qk.out
 replace ql := ql.out
 refine chk (fun W => Below w.heap.size w W ∧ W.heap[w.heap.size]? = some (.cells #[.int .i64 A, .int .i64 B] 32 (0, 0)) ∧ W.heap[w.heap.size + 1 + 1]? = some (.cells #[.bool false, .slice none 0 0] 80 (0, 0)) ∧ W.heap[w1.heap.size + 1]? = some (.cells #[.bool b, .slice a n c] 80 (0, 0)) ∧ W.heap[w1.heap.size]? = some (.cells #[.bool b2, .slice a2 n2 c2] 80 (0, 0)) ∧ Wx W b a n c x ∧ Wx W b2 a2 n2 c2 z) (by refine ⟨?_, ?_, ?_, ?_, ?_, ?_, ?_⟩ <;> (exact ck)) ?_
 try clear hx
 try clear hz
 clear zr zt yz qj
 clear zu zv zw zx va qk
 clear zy ja vb ql
 clear hB1
 rintro w3 ⟨hB3, qf, qg, qh, qi, hx', hz'⟩
 obtain ⟨jb, jc, vc, jy⟩ := bk2 qf
 replace qf := Lib.hid qf
 obtain ⟨jd, je, vd, jz⟩ := bk2 qg
 replace qg := Lib.hid qg
 obtain ⟨zd, ze, vf, ya⟩ := bk2 qh
 replace qh := Lib.hid qh
 obtain ⟨zf, zg, vg, yb⟩ := bk2 qi
 replace qi := Lib.hid qi
 have hx := hx'
 clear hx'
 have hz := hz'
 clear hz'
 generalize w1.heap.size + 1 = gx at *
 generalize w1.heap.size = gz at *
 clear w1
 all_goals
  refine wp_open (n := 6) (by kernel_rfl) (by kernel_rfl) (by kernel_rfl) (by kernel_rfl) ?_
  simp only [List.take_succ_cons, List.take_zero]
  apply wpS_quiet
  ·intro γ W hW hp
   have hs := hW.size
   (try simp only [sA, sB, sC, sD] at hs)
   have qc := fun x => (xcA hW (gx) 0 (by first | omega | go_size) x).trans zd
   have qd := fun x => (xcA hW (gx) 1 (by first | omega | go_size) x).trans ze
   clear hW hp
   refine ⟨rfl, ?_⟩
   go_big_quiet_op
   first | exact rfl
  ·exact locS_const _
  try simp only [Act.put, List.setIfInBounds_toArray, List.set_cons_succ, List.set_cons_zero, Nat.reduceAdd]
  apply wpS_open (openW w.heap.size x2)
  ·intro γ W hW hp
   refine ⟨rfl, ?_⟩
   go_simp
   refine plainNew rfl ?_
   exact open_W (xdSquare_eq (hx.below hW) X2.out (by omega)) (by (have := hW.size; (try simp only [sA, sB, sC, sD] at this); omega))
  try simp only [Act.put, List.setIfInBounds_toArray, List.set_cons_succ, List.set_cons_zero, Nat.reduceAdd]
  apply wpS_quiet
  ·intro γ W hW hp
   have hs := hW.size
   (try simp only [sA, sB, sC, sD] at hs)
   have qc := fun x => (xcA hW (gz) 0 (by first | omega | go_size) x).trans zf
   have qd := fun x => (xcA hW (gz) 1 (by first | omega | go_size) x).trans zg
   clear hW hp
   refine ⟨rfl, ?_⟩
   go_big_quiet_op
   first | exact rfl
  ·exact locS_const _
  try simp only [Act.put, List.setIfInBounds_toArray, List.set_cons_succ, List.set_cons_zero, Nat.reduceAdd]
  apply wpS_open (openW w.heap.size z2)
  ·intro γ W hW hp
   refine ⟨rfl, ?_⟩
   go_simp
   refine plainNew rfl ?_
   exact open_W (xdSquare_eq (hz.below hW) Z2.out (by omega)) (by (have := hW.size; (try simp only [sA, sB, sC, sD] at this); omega))
  try simp only [Act.put, List.setIfInBounds_toArray, List.set_cons_succ, List.set_cons_zero, Nat.reduceAdd]
  apply wpS_open (newBox _ _ _)
  ·intro γ W hW hp
   refine ⟨rfl, ?_⟩
   go_simp
   exact ⟨⟨⟨_, rfl, hW.size, heap_alloc_new _ _⟩, fun _ => ⟨_, rfl, Nat.le_refl _, by simp⟩⟩, (Below.refl _ _).alloc (Nat.le_refl _) _⟩
  try simp only [Act.put, List.setIfInBounds_toArray, List.set_cons_succ, List.set_cons_zero, Nat.reduceAdd]
  apply wpS_open (newBox _ _ _)
  ·intro γ W hW hp
   refine ⟨rfl, ?_⟩
   go_simp
   exact ⟨⟨⟨_, rfl, hW.size, heap_alloc_new _ _⟩, fun _ => ⟨_, rfl, Nat.le_refl _, by simp⟩⟩, (Below.refl _ _).alloc (Nat.le_refl _) _⟩
  try simp only [Act.put, List.setIfInBounds_toArray, List.set_cons_succ, List.set_cons_zero, Nat.reduceAdd]
  apply wpS_end
  intro γ w4 hb4 hG4 hA4
  have vh := hG4 _ (mL _ (mL _ (mL _ (mR _))))
  dsimp only at vh
  have vi := hG4 _ (mL _ (mL _ (mR _)))
  dsimp only at vi
  obtain ⟨qe, yc, zh, zo⟩ := hG4 _ (mL _ (mR _))
  dsimp only at yc zh zo
  obtain ⟨qa, yd, zi, zp⟩ := hG4 _ (mR _)
  dsimp only at yd zi zp
  have gu := fun o => blk_cell zo o
  have gv := fun o => blk_frozen zo o
  have dj := blk_lt' zo
  have gy := fun o => blk_cell zp o
  have ka := fun o => blk_frozen zp o
  have dk := blk_lt' zp
  have pt : qe ≠ qa := fun ee => hA4 _ (mL _ (mR _)) _ (mR _) rfl rfl (show (4 : Nat) ≠ 5 by decide) (by dsimp only; rw [yc, yd, ee])
  have vr : w.heap.size ≠ qe := Nat.ne_of_lt (Nat.lt_of_lt_of_le jy zh)
  have vt : w.heap.size + 1 + 1 ≠ qe := Nat.ne_of_lt (Nat.lt_of_lt_of_le jz zh)
  have vu : gx ≠ qe := Nat.ne_of_lt (Nat.lt_of_lt_of_le ya zh)
  have vv : gz ≠ qe := Nat.ne_of_lt (Nat.lt_of_lt_of_le yb zh)
  have dl : w.heap.size ≤ qe := Nat.le_trans hB3.size zh
  have vw : w.heap.size ≠ qa := Nat.ne_of_lt (Nat.lt_of_lt_of_le jy zi)
  have vy : w.heap.size + 1 + 1 ≠ qa := Nat.ne_of_lt (Nat.lt_of_lt_of_le jz zi)
  have wc : gx ≠ qa := Nat.ne_of_lt (Nat.lt_of_lt_of_le ya zi)
  have wd : gz ≠ qa := Nat.ne_of_lt (Nat.lt_of_lt_of_le yb zi)
  have dm : w.heap.size ≤ qa := Nat.le_trans hB3.size zi
  clear hG4 hA4
  try simp only [yc, yd]
  clear yc
  clear yd
  simp only [List.drop_succ_cons, List.drop_zero]
  have hz4 := hb4.size
  (try simp only [sA, sB, sC, sD] at hz4)
  obtain ⟨b3, a3, n3, c3, e3, hs, -⟩ := vh
  obtain ⟨b4, a4, n4, c4, e4, ht, -⟩ := vi
  simp only [e3, e4]
  clear e3 e4
  have qn := (hb4.block (w.heap.size) (blk_lt' qf.out)).trans qf.out
  clear jb jc vc qf
  obtain ⟨wg, wi, kb, dn⟩ := bk2 qn
  replace qn := Lib.hid qn
  have qo := (hb4.block (w.heap.size + 1 + 1) (blk_lt' qg.out)).trans qg.out
  clear jd je vd qg
  obtain ⟨wj, wk, kc, dq⟩ := bk2 qo
  replace qo := Lib.hid qo
  have qq := (hb4.block (gx) (blk_lt' qh.out)).trans qh.out
  clear zd ze vf qh
  obtain ⟨wl, wm, kd, dr⟩ := bk2 qq
  replace qq := Lib.hid qq
  have qr := (hb4.block (gz) (blk_lt' qi.out)).trans qi.out
  clear zf zg vg qi
  obtain ⟨wn, wq, ke, dt⟩ := bk2 qr
  replace qr := Lib.hid qr
  replace hx := hx.below hb4
  replace hz := hz.below hb4
  have hB4 : Below w.heap.size w w4 := below_via hb4 (by assumption) (by go_size)
  go_wp2_with fail
  replace qn := qn.out
  replace qo := qo.out
  replace qq := qq.out
  replace qr := qr.out
  refine chk (fun W => Below w.heap.size w W ∧ W.heap[w.heap.size]? = some (.cells #[.int .i64 A, .int .i64 B] 32 (0, 0)) ∧ W.heap[w.heap.size + 1 + 1]? = some (.cells #[.bool false, .slice none 0 0] 80 (0, 0)) ∧ W.heap[gx]? = some (.cells #[.bool b, .slice a n c] 80 (0, 0)) ∧ W.heap[gz]? = some (.cells #[.bool b2, .slice a2 n2 c2] 80 (0, 0)) ∧ W.heap[qe]? = some (.cells #[.bool b3, .slice a3 n3 c3] 80 (0, 0)) ∧ W.heap[qa]? = some (.cells #[.bool b4, .slice a4 n4 c4] 80 (0, 0)) ∧ Wx W b a n c x ∧ Wx W b2 a2 n2 c2 z ∧ Wx W b3 a3 n3 c3 x2 ∧ Wx W b4 a4 n4 c4 z2) (by refine ⟨?_, ?_, ?_, ?_, ?_, ?_, ?_, ?_, ?_, ?_, ?_⟩ <;> (exact ck)) ?_
  try clear hx
  try clear hz
  try clear hs
  try clear ht
  clear wg wi kb qn
  clear wj wk kc qo
  clear wl wm kd qq
  clear wn wq ke qr
  clear hB4
  try clear gu
  try clear gv
  try clear zo
  try clear gy
  try clear ka
  try clear zp
  rintro w5 ⟨hB5, qt, qu, qv, qw, qx, qy, hx', hz', hs', ht'⟩
  obtain ⟨jf, jg, kf, kh⟩ := bk2 qt
  replace qt := Lib.hid qt
  obtain ⟨ws, wt, ki, kj⟩ := bk2 qu
  replace qu := Lib.hid qu
  obtain ⟨wu, wv, kl, km⟩ := bk2 qv
  replace qv := Lib.hid qv
  obtain ⟨ww, wx, kn, ko⟩ := bk2 qw
  replace qw := Lib.hid qw
  obtain ⟨zj, zk, kp, kr⟩ := bk2 qx
  replace qx := Lib.hid qx
  obtain ⟨jh, ji, ks, kt⟩ := bk2 qy
  replace qy := Lib.hid qy
  have hx := hx'
  clear hx'
  have hz := hz'
  clear hz'
  have hs := hs'
  clear hs'
  have ht := ht'
  clear ht'
  refine wp_open (n := 11) (by kernel_rfl) (by kernel_rfl) (by kernel_rfl) (by kernel_rfl) ?_
  simp only [List.take_succ_cons, List.take_zero]
  apply wpS_quiet
  ·intro γ W hW hp
   have hs := hW.size
   (try simp only [sA, sB, sC, sD] at hs)
   have qc := fun x => (xcA hW (qe) 0 (by first | omega | go_size) x).trans zj
   have qd := fun x => (xcA hW (qe) 1 (by first | omega | go_size) x).trans zk
   clear hW hp
   refine ⟨rfl, ?_⟩
   go_big_quiet_op
   first | exact rfl
  ·exact locS_const _
  try simp only [Act.put, List.setIfInBounds_toArray, List.set_cons_succ, List.set_cons_zero, Nat.reduceAdd]
  apply wpS_open (openW w.heap.size p1)
  ·intro γ W hW hp
   refine ⟨rfl, ?_⟩
   go_simp
   refine plainNew rfl ?_
   exact open_W (xdSquare_eq (hs.below hW) P1.out (by omega)) (by (have := hW.size; (try simp only [sA, sB, sC, sD] at this); omega))
  try simp only [Act.put, List.setIfInBounds_toArray, List.set_cons_succ, List.set_cons_zero, Nat.reduceAdd]
  apply wpS_quiet
  ·intro γ W hW hp
   have hs := hW.size
   (try simp only [sA, sB, sC, sD] at hs)
   have qc := fun x => (xcA hW (qe) 0 (by first | omega | go_size) x).trans zj
   have qd := fun x => (xcA hW (qe) 1 (by first | omega | go_size) x).trans zk
   clear hW hp
   refine ⟨rfl, ?_⟩
   go_big_quiet_op
   first | exact rfl
  ·exact locS_const _
  try simp only [Act.put, List.setIfInBounds_toArray, List.set_cons_succ, List.set_cons_zero, Nat.reduceAdd]
  apply wpS_quiet
  ·intro γ W hW hp
   have hs := hW.size
   (try simp only [sA, sB, sC, sD] at hs)
   have qc := fun x => (xcA hW (qa) 0 (by first | omega | go_size) x).trans jh
   have qd := fun x => (xcA hW (qa) 1 (by first | omega | go_size) x).trans ji
   clear hW hp
   refine ⟨rfl, ?_⟩
   go_big_quiet_op
   first | exact rfl
  ·exact locS_const _
  try simp only [Act.put, List.setIfInBounds_toArray, List.set_cons_succ, List.set_cons_zero, Nat.reduceAdd]
  apply wpS_open (openW w.heap.size p2)
  ·intro γ W hW hp
   refine ⟨rfl, ?_⟩
   go_simp
   refine plainNew rfl ?_
   exact open_W (bgMul_eq (hs.below hW) (ht.below hW) P2.out (by omega) (by omega)) (by (have := hW.size; (try simp only [sA, sB, sC, sD] at this); omega))
  try simp only [Act.put, List.setIfInBounds_toArray, List.set_cons_succ, List.set_cons_zero, Nat.reduceAdd]
  apply wpS_quiet
  ·intro γ W hW hp
   refine ⟨rfl, ?_⟩
   go_big_quiet_op
   first | exact rfl
  ·exact locS_const _
  try simp only [Act.put, List.setIfInBounds_toArray, List.set_cons_succ, List.set_cons_zero, Nat.reduceAdd]
  apply wpS_quiet
  ·intro γ W hW hp
   have hs := hW.size
   (try simp only [sA, sB, sC, sD] at hs)
   have qc := fun x => (xcA hW (w.heap.size) 0 (by first | omega | go_size) x).trans jf
   have qd := fun x => (xcA hW (w.heap.size) 1 (by first | omega | go_size) x).trans jg
   clear hW hp
   refine ⟨rfl, ?_⟩
   go_big_quiet_op
   first | exact rfl
  ·exact locS_const _
  try simp only [Act.put, List.setIfInBounds_toArray, List.set_cons_succ, List.set_cons_zero, Nat.reduceAdd]
  apply wpS_quiet
  ·intro γ W hW hp
   refine ⟨rfl, ?_⟩
   go_big_quiet_op
   first | exact rfl
  ·exact locS_const _
  try simp only [Act.put, List.setIfInBounds_toArray, List.set_cons_succ, List.set_cons_zero, Nat.reduceAdd]
  apply wpS_open (openW w.heap.size p3)
  ·intro γ W hW hp
   have gf := hp _ (mR _) (by kernel_rfl)
   dsimp only at gf
   refine ⟨rfl, ?_⟩
   go_simp
   refine plainNew rfl ?_
   obtain ⟨b3, a3, n3, c3, e3, h3, _⟩ := gf
   rw [e3]
   exact open_W (bgTimes_eq h3 P3.out (by omega) (by omega)) (by (have := hW.size; (try simp only [sA, sB, sC, sD] at this); omega))
  try simp only [Act.put, List.setIfInBounds_toArray, List.set_cons_succ, List.set_cons_zero, Nat.reduceAdd]
  apply wpS_open (openW w.heap.size p4)
  ·intro γ W hW hp
   have gg := hp _ (mL _ (mL _ (mR _))) (by kernel_rfl)
   dsimp only at gg
   have zq := hp _ (mR _) (by kernel_rfl)
   dsimp only at zq
   refine ⟨rfl, ?_⟩
   go_simp
   refine plainNew rfl ?_
   obtain ⟨b3, a3, n3, c3, e3, h3, _⟩ := gg
   obtain ⟨b4, a4, n4, c4, e4, h4, _⟩ := zq
   rw [e3, e4]
   exact open_W (bgSub_eq h3 h4 P4.out (by omega) (by omega)) (by (have := hW.size; (try simp only [sA, sB, sC, sD] at this); omega))
  try simp only [Act.put, List.setIfInBounds_toArray, List.set_cons_succ, List.set_cons_zero, Nat.reduceAdd]
  apply wpS_open (newBox _ _ _)
  ·intro γ W hW hp
   refine ⟨rfl, ?_⟩
   go_simp
   exact ⟨⟨⟨_, rfl, hW.size, heap_alloc_new _ _⟩, fun _ => ⟨_, rfl, Nat.le_refl _, by simp⟩⟩, (Below.refl _ _).alloc (Nat.le_refl _) _⟩
  try simp only [Act.put, List.setIfInBounds_toArray, List.set_cons_succ, List.set_cons_zero, Nat.reduceAdd]
  apply wpS_end
  intro γ w6 hb6 hG6 hA6
  have vj := hG6 _ (mL _ (mL _ (mL _ (mL _ (mR _)))))
  dsimp only at vj
  have vk := hG6 _ (mL _ (mL _ (mL _ (mR _))))
  dsimp only at vk
  have vm := hG6 _ (mL _ (mL _ (mR _)))
  dsimp only at vm
  have vn := hG6 _ (mL _ (mR _))
  dsimp only at vn
  obtain ⟨qb, ye, qm, xw⟩ := hG6 _ (mR _)
  dsimp only at ye qm xw
  have gh := fun o => blk_cell xw o
  have gi := fun o => blk_frozen xw o
  have pu := blk_lt' xw
  have yj : w.heap.size ≠ qb := Nat.ne_of_lt (Nat.lt_of_lt_of_le kh qm)
  have yk : w.heap.size + 1 + 1 ≠ qb := Nat.ne_of_lt (Nat.lt_of_lt_of_le kj qm)
  have yl : gx ≠ qb := Nat.ne_of_lt (Nat.lt_of_lt_of_le km qm)
  have ym : gz ≠ qb := Nat.ne_of_lt (Nat.lt_of_lt_of_le ko qm)
  have yn : qe ≠ qb := Nat.ne_of_lt (Nat.lt_of_lt_of_le kr qm)
  have yo : qa ≠ qb := Nat.ne_of_lt (Nat.lt_of_lt_of_le kt qm)
  have pv : w.heap.size ≤ qb := Nat.le_trans hB5.size qm
  clear hG6 hA6
  try simp only [ye]
  clear ye
  simp only [List.drop_succ_cons, List.drop_zero]
  have hz6 := hb6.size
  (try simp only [sA, sB, sC, sD] at hz6)
  obtain ⟨b5, a5, n5, c5, e5, hu, -⟩ := vn
  simp only [e5]
  clear e5 vj vk vm
  have qz := (hb6.block (w.heap.size) (blk_lt' qt.out)).trans qt.out
  clear jf jg kf qt
  obtain ⟨wy, wz, ku, du⟩ := bk2 qz
  replace qz := Lib.hid qz
  have xa := (hb6.block (w.heap.size + 1 + 1) (blk_lt' qu.out)).trans qu.out
  clear ws wt ki qu
  obtain ⟨ua, ub, kw, dv⟩ := bk2 xa
  replace xa := Lib.hid xa
  have xb := (hb6.block (gx) (blk_lt' qv.out)).trans qv.out
  clear wu wv kl qv
  obtain ⟨uc, ud, kx, dw⟩ := bk2 xb
  replace xb := Lib.hid xb
  have xc := (hb6.block (gz) (blk_lt' qw.out)).trans qw.out
  clear ww wx kn qw
  obtain ⟨ue, uf, ky, dx⟩ := bk2 xc
  replace xc := Lib.hid xc
  have xd := (hb6.block (qe) (blk_lt' qx.out)).trans qx.out
  clear zj zk kp qx
  obtain ⟨ug, uh, kz, fa⟩ := bk2 xd
  replace xd := Lib.hid xd
  have xe := (hb6.block (qa) (blk_lt' qy.out)).trans qy.out
  clear jh ji ks qy
  obtain ⟨ui, uj, pa, fb⟩ := bk2 xe
  replace xe := Lib.hid xe
  replace hx := hx.below hb6
  replace hz := hz.below hb6
  replace hs := hs.below hb6
  replace ht := ht.below hb6
  have hB6 : Below w.heap.size w w6 := below_via hb6 (by assumption) (by go_size)
  go_wp2_with fail
  replace qz := qz.out
  replace xa := xa.out
  replace xb := xb.out
  replace xc := xc.out
  replace xd := xd.out
  replace xe := xe.out
  refine chk (fun W => Below w.heap.size w W ∧ W.heap[w.heap.size]? = some (.cells #[.int .i64 A, .int .i64 B] 32 (0, 0)) ∧ W.heap[w.heap.size + 1 + 1]? = some (.cells #[.bool false, .slice none 0 0] 80 (0, 0)) ∧ W.heap[gx]? = some (.cells #[.bool b, .slice a n c] 80 (0, 0)) ∧ W.heap[gz]? = some (.cells #[.bool b2, .slice a2 n2 c2] 80 (0, 0)) ∧ W.heap[qa]? = some (.cells #[.bool b4, .slice a4 n4 c4] 80 (0, 0)) ∧ W.heap[qb]? = some (.cells #[.bool b5, .slice a5 n5 c5] 80 (0, 0)) ∧ Wx W b a n c x ∧ Wx W b2 a2 n2 c2 z ∧ Wx W b4 a4 n4 c4 z2 ∧ Wx W b5 a5 n5 c5 p4) (by refine ⟨?_, ?_, ?_, ?_, ?_, ?_, ?_, ?_, ?_, ?_, ?_⟩ <;> (exact ck)) ?_
  try clear hx
  try clear hz
  try clear ht
  try clear hu
  clear wy wz ku qz
  clear ua ub kw xa
  clear uc ud kx xb
  clear ue uf ky xc
  clear ug uh kz xd
  clear ui uj pa xe
  clear hB6
  try clear gh
  try clear gi
  try clear xw
  rintro w7 ⟨hB7, xf, xg, xh, xi, xj, xk, hx', hz', ht', hu'⟩
  obtain ⟨jj, jk, pb, fc⟩ := bk2 xf
  replace xf := Lib.hid xf
  obtain ⟨uk, ul, pc, fd⟩ := bk2 xg
  replace xg := Lib.hid xg
  obtain ⟨jl, jm, pd, fe⟩ := bk2 xh
  replace xh := Lib.hid xh
  obtain ⟨jn, jo, pe, ff⟩ := bk2 xi
  replace xi := Lib.hid xi
  obtain ⟨jp, jq, pf, fh⟩ := bk2 xj
  replace xj := Lib.hid xj
  obtain ⟨jr, jt, pg, fi⟩ := bk2 xk
  replace xk := Lib.hid xk
  have hx := hx'
  clear hx'
  have hz := hz'
  clear hz'
  have ht := ht'
  clear ht'
  have hu := hu'
  clear hu'
  refine wp_open (n := 11) (by kernel_rfl) (by kernel_rfl) (by kernel_rfl) (by kernel_rfl) ?_
  simp only [List.take_succ_cons, List.take_zero]
  apply wpS_quiet
  ·intro γ W hW hp
   have hs := hW.size
   (try simp only [sA, sB, sC, sD] at hs)
   have qc := fun x => (xcA hW (qb) 0 (by first | omega | go_size) x).trans jr
   have qd := fun x => (xcA hW (qb) 1 (by first | omega | go_size) x).trans jt
   clear hW hp
   refine ⟨rfl, ?_⟩
   go_big_quiet_op
   first | exact rfl
  ·exact locS_const _
  try simp only [Act.put, List.setIfInBounds_toArray, List.set_cons_succ, List.set_cons_zero, Nat.reduceAdd]
  apply wpS_quiet
  ·intro γ W hW hp
   have hs := hW.size
   (try simp only [sA, sB, sC, sD] at hs)
   have qc := fun x => (xcA hW (gx) 0 (by first | omega | go_size) x).trans jl
   have qd := fun x => (xcA hW (gx) 1 (by first | omega | go_size) x).trans jm
   clear hW hp
   refine ⟨rfl, ?_⟩
   go_big_quiet_op
   first | exact rfl
  ·exact locS_const _
  try simp only [Act.put, List.setIfInBounds_toArray, List.set_cons_succ, List.set_cons_zero, Nat.reduceAdd]
  apply wpS_quiet
  ·intro γ W hW hp
   have hs := hW.size
   (try simp only [sA, sB, sC, sD] at hs)
   have qc := fun x => (xcA hW (gz) 0 (by first | omega | go_size) x).trans jn
   have qd := fun x => (xcA hW (gz) 1 (by first | omega | go_size) x).trans jo
   clear hW hp
   refine ⟨rfl, ?_⟩
   go_big_quiet_op
   first | exact rfl
  ·exact locS_const _
  try simp only [Act.put, List.setIfInBounds_toArray, List.set_cons_succ, List.set_cons_zero, Nat.reduceAdd]
  apply wpS_open (openW w.heap.size q1)
  ·intro γ W hW hp
   refine ⟨rfl, ?_⟩
   go_simp
   refine plainNew rfl ?_
   exact open_W (bgMul_eq (hx.below hW) (hz.below hW) Q1.out (by omega) (by omega)) (by (have := hW.size; (try simp only [sA, sB, sC, sD] at this); omega))
  try simp only [Act.put, List.setIfInBounds_toArray, List.set_cons_succ, List.set_cons_zero, Nat.reduceAdd]
  apply wpS_quiet
  ·intro γ W hW hp
   have hs := hW.size
   (try simp only [sA, sB, sC, sD] at hs)
   have qc := fun x => (xcA hW (qa) 0 (by first | omega | go_size) x).trans jp
   have qd := fun x => (xcA hW (qa) 1 (by first | omega | go_size) x).trans jq
   clear hW hp
   refine ⟨rfl, ?_⟩
   go_big_quiet_op
   first | exact rfl
  ·exact locS_const _
  try simp only [Act.put, List.setIfInBounds_toArray, List.set_cons_succ, List.set_cons_zero, Nat.reduceAdd]
  apply wpS_open (openW w.heap.size q2)
  ·intro γ W hW hp
   have gj := hp _ (mR _) (by kernel_rfl)
   dsimp only at gj
   refine ⟨rfl, ?_⟩
   go_simp
   refine plainNew rfl ?_
   obtain ⟨b3, a3, n3, c3, e3, h3, _⟩ := gj
   rw [e3]
   exact open_W (bgMul_eq h3 (ht.below hW) Q2.out (by omega) (by omega)) (by (have := hW.size; (try simp only [sA, sB, sC, sD] at this); omega))
  try simp only [Act.put, List.setIfInBounds_toArray, List.set_cons_succ, List.set_cons_zero, Nat.reduceAdd]
  apply wpS_quiet
  ·intro γ W hW hp
   refine ⟨rfl, ?_⟩
   go_big_quiet_op
   first | exact rfl
  ·exact locS_const _
  try simp only [Act.put, List.setIfInBounds_toArray, List.set_cons_succ, List.set_cons_zero, Nat.reduceAdd]
  apply wpS_quiet
  ·intro γ W hW hp
   have hs := hW.size
   (try simp only [sA, sB, sC, sD] at hs)
   have qc := fun x => (xcA hW (w.heap.size) 0 (by first | omega | go_size) x).trans jj
   have qd := fun x => (xcA hW (w.heap.size) 1 (by first | omega | go_size) x).trans jk
   clear hW hp
   refine ⟨rfl, ?_⟩
   go_big_quiet_op
   first | exact rfl
  ·exact locS_const _
  try simp only [Act.put, List.setIfInBounds_toArray, List.set_cons_succ, List.set_cons_zero, Nat.reduceAdd]
  apply wpS_quiet
  ·intro γ W hW hp
   refine ⟨rfl, ?_⟩
   go_big_quiet_op
   first | exact rfl
  ·exact locS_const _
  try simp only [Act.put, List.setIfInBounds_toArray, List.set_cons_succ, List.set_cons_zero, Nat.reduceAdd]
  apply wpS_open (openW w.heap.size q3)
  ·intro γ W hW hp
   have gk := hp _ (mR _) (by kernel_rfl)
   dsimp only at gk
   refine ⟨rfl, ?_⟩
   go_simp
   refine plainNew rfl ?_
   obtain ⟨b3, a3, n3, c3, e3, h3, _⟩ := gk
   rw [e3]
   exact open_W (bgTimes_eq h3 Q3.out (by omega) (by omega)) (by (have := hW.size; (try simp only [sA, sB, sC, sD] at this); omega))
  try simp only [Act.put, List.setIfInBounds_toArray, List.set_cons_succ, List.set_cons_zero, Nat.reduceAdd]
  apply wpS_open (openW w.heap.size q4)
  ·intro γ W hW hp
   have gl := hp _ (mR _) (by kernel_rfl)
   dsimp only at gl
   refine ⟨rfl, ?_⟩
   go_simp
   refine plainNew rfl ?_
   obtain ⟨b3, a3, n3, c3, e3, h3, _⟩ := gl
   rw [e3]
   exact open_W (bgSub_eq (hu.below hW) h3 Q4.out (by omega) (by omega)) (by (have := hW.size; (try simp only [sA, sB, sC, sD] at this); omega))
  try simp only [Act.put, List.setIfInBounds_toArray, List.set_cons_succ, List.set_cons_zero, Nat.reduceAdd]
  apply wpS_end
  intro γ w8 hb8 hG8 hA8
  have vo := hG8 _ (mL _ (mL _ (mL _ (mR _))))
  dsimp only at vo
  have vp := hG8 _ (mL _ (mL _ (mR _)))
  dsimp only at vp
  have vq := hG8 _ (mL _ (mR _))
  dsimp only at vq
  have yf := hG8 _ (mR _)
  dsimp only at yf
  clear hG8 hA8
  simp only [List.drop_succ_cons, List.drop_zero]
  have hz8 := hb8.size
  (try simp only [sA, sB, sC, sD] at hz8)
  obtain ⟨b6, a6, n6, c6, e6, hv, -⟩ := yf
  simp only [e6]
  clear e6 vo vp vq
  have xl := (hb8.block (w.heap.size) (blk_lt' xf.out)).trans xf.out
  clear jj jk pb xf
  obtain ⟨um, un, ph, fj⟩ := bk2 xl
  replace xl := Lib.hid xl
  have xm := (hb8.block (w.heap.size + 1 + 1) (blk_lt' xg.out)).trans xg.out
  clear uk ul pc xg
  obtain ⟨uo, uq, pi, fk⟩ := bk2 xm
  replace xm := Lib.hid xm
  have xn := (hb8.block (gx) (blk_lt' xh.out)).trans xh.out
  clear jl jm pd xh
  obtain ⟨ur, us, pj, fl⟩ := bk2 xn
  replace xn := Lib.hid xn
  have xo := (hb8.block (gz) (blk_lt' xi.out)).trans xi.out
  clear jn jo pe xi
  obtain ⟨ut, uw, pk, fm⟩ := bk2 xo
  replace xo := Lib.hid xo
  have xp := (hb8.block (qa) (blk_lt' xj.out)).trans xj.out
  clear jp jq pf xj
  obtain ⟨uy, ga, pm, fn⟩ := bk2 xp
  replace xp := Lib.hid xp
  have xq := (hb8.block (qb) (blk_lt' xk.out)).trans xk.out
  clear jr jt pg xk
  obtain ⟨gb, gc, pn, fo⟩ := bk2 xq
  replace xq := Lib.hid xq
  replace hx := hx.below hb8
  replace hz := hz.below hb8
  replace ht := ht.below hb8
  replace hu := hu.below hb8
  have hB8 : Below w.heap.size w w8 := below_via hb8 (by assumption) (by go_size)
  go_wp2_with fail
  replace xl := xl.out
  replace xm := xm.out
  replace xn := xn.out
  replace xo := xo.out
  replace xp := xp.out
  replace xq := xq.out
  refine chk (fun W => Below w.heap.size w W ∧ W.heap[w.heap.size]? = some (.cells #[.int .i64 A, .int .i64 B] 32 (0, 0)) ∧ W.heap[w.heap.size + 1 + 1]? = some (.cells #[.bool false, .slice none 0 0] 80 (0, 0)) ∧ W.heap[qa]? = some (.cells #[.bool b4, .slice a4 n4 c4] 80 (0, 0)) ∧ W.heap[qb]? = some (.cells #[.bool b6, .slice a6 n6 c6] 80 (0, 0)) ∧ Wx W b4 a4 n4 c4 z2 ∧ Wx W b6 a6 n6 c6 q4) (by refine ⟨?_, ?_, ?_, ?_, ?_, ?_, ?_⟩ <;> (exact ck)) ?_
  try clear ht
  try clear hv
  clear um un ph xl
  clear uo uq pi xm
  clear ur us pj xn
  clear ut uw pk xo
  clear uy ga pm xp
  clear gb gc pn xq
  clear hB8
  rintro w9 ⟨hB9, xr, xt, xu, xv, ht', hv'⟩
  obtain ⟨zm, zn, po, fp⟩ := bk2 xr
  replace xr := Lib.hid xr
  obtain ⟨gd, ge, pp, fq⟩ := bk2 xt
  replace xt := Lib.hid xt
  obtain ⟨ju, jv, pq, ft⟩ := bk2 xu
  replace xu := Lib.hid xu
  obtain ⟨jw, jx, pr, fu⟩ := bk2 xv
  replace xv := Lib.hid xv
  have ht := ht'
  clear ht'
  have hv := hv'
  clear hv'
  refine wp_open (n := 10) (by kernel_rfl) (by kernel_rfl) (by kernel_rfl) (by kernel_rfl) ?_
  simp only [List.take_succ_cons, List.take_zero]
  apply wpS_quiet
  ·intro γ W hW hp
   have hs := hW.size
   (try simp only [sA, sB, sC, sD] at hs)
   have qc := fun x => (xcA hW (qb) 0 (by first | omega | go_size) x).trans jw
   have qd := fun x => (xcA hW (qb) 1 (by first | omega | go_size) x).trans jx
   clear hW hp
   refine ⟨rfl, ?_⟩
   go_big_quiet_op
   first | exact rfl
  ·exact locS_const _
  try simp only [Act.put, List.setIfInBounds_toArray, List.set_cons_succ, List.set_cons_zero, Nat.reduceAdd]
  apply wpS_quiet
  ·intro γ W hW hp
   have hs := hW.size
   (try simp only [sA, sB, sC, sD] at hs)
   have qc := fun x => (xcA hW (qa) 0 (by first | omega | go_size) x).trans ju
   have qd := fun x => (xcA hW (qa) 1 (by first | omega | go_size) x).trans jv
   clear hW hp
   refine ⟨rfl, ?_⟩
   go_big_quiet_op
   first | exact rfl
  ·exact locS_const _
  try simp only [Act.put, List.setIfInBounds_toArray, List.set_cons_succ, List.set_cons_zero, Nat.reduceAdd]
  apply wpS_open (openW w.heap.size r1)
  ·intro γ W hW hp
   refine ⟨rfl, ?_⟩
   go_simp
   refine plainNew rfl ?_
   exact open_W (xdSquare_eq (ht.below hW) R1.out (by omega)) (by (have := hW.size; (try simp only [sA, sB, sC, sD] at this); omega))
  try simp only [Act.put, List.setIfInBounds_toArray, List.set_cons_succ, List.set_cons_zero, Nat.reduceAdd]
  apply wpS_quiet
  ·intro γ W hW hp
   refine ⟨rfl, ?_⟩
   go_big_quiet_op
   first | exact rfl
  ·exact locS_const _
  try simp only [Act.put, List.setIfInBounds_toArray, List.set_cons_succ, List.set_cons_zero, Nat.reduceAdd]
  apply wpS_quiet
  ·intro γ W hW hp
   have hs := hW.size
   (try simp only [sA, sB, sC, sD] at hs)
   have qc := fun x => (xcA hW (w.heap.size) 0 (by first | omega | go_size) x).trans zm
   have qd := fun x => (xcA hW (w.heap.size) 1 (by first | omega | go_size) x).trans zn
   clear hW hp
   refine ⟨rfl, ?_⟩
   go_big_quiet_op
   first | exact rfl
  ·exact locS_const _
  try simp only [Act.put, List.setIfInBounds_toArray, List.set_cons_succ, List.set_cons_zero, Nat.reduceAdd]
  apply wpS_quiet
  ·intro γ W hW hp
   refine ⟨rfl, ?_⟩
   go_big_quiet_op
   first | exact rfl
  ·exact locS_const _
  try simp only [Act.put, List.setIfInBounds_toArray, List.set_cons_succ, List.set_cons_zero, Nat.reduceAdd]
  apply wpS_quiet
  ·intro γ W hW hp
   have hs := hW.size
   (try simp only [sA, sB, sC, sD] at hs)
   have qc := fun x => (xcA hW (w.heap.size) 0 (by first | omega | go_size) x).trans zm
   have qd := fun x => (xcA hW (w.heap.size) 1 (by first | omega | go_size) x).trans zn
   clear hW hp
   refine ⟨rfl, ?_⟩
   go_big_quiet_op
   first | exact rfl
  ·exact locS_const _
  try simp only [Act.put, List.setIfInBounds_toArray, List.set_cons_succ, List.set_cons_zero, Nat.reduceAdd]
  apply wpS_quiet
  ·intro γ W hW hp
   refine ⟨rfl, ?_⟩
   go_big_quiet_op
   first | exact rfl
  ·exact locS_const _
  try simp only [Act.put, List.setIfInBounds_toArray, List.set_cons_succ, List.set_cons_zero, Nat.reduceAdd]
  apply wpS_open (openW w.heap.size r2)
  ·intro γ W hW hp
   have gm := hp _ (mR _) (by kernel_rfl)
   dsimp only at gm
   refine ⟨rfl, ?_⟩
   go_simp
   refine plainNew rfl ?_
   obtain ⟨b3, a3, n3, c3, e3, h3, _⟩ := gm
   rw [e3]
   exact open_W (bgTimes_eq h3 R2.out (by omega) (by omega)) (by (have := hW.size; (try simp only [sA, sB, sC, sD] at this); omega))
  try simp only [Act.put, List.setIfInBounds_toArray, List.set_cons_succ, List.set_cons_zero, Nat.reduceAdd]
  apply wpS_open (openW w.heap.size t)
  ·intro γ W hW hp
   have zq := hp _ (mR _) (by kernel_rfl)
   dsimp only at zq
   refine ⟨rfl, ?_⟩
   go_simp
   refine plainNew rfl ?_
   obtain ⟨b3, a3, n3, c3, e3, h3, _⟩ := zq
   rw [e3]
   exact open_W (bgAdd_eq (hv.below hW) h3 RT.out (by omega) (by omega)) (by (have := hW.size; (try simp only [sA, sB, sC, sD] at this); omega))
  try simp only [Act.put, List.setIfInBounds_toArray, List.set_cons_succ, List.set_cons_zero, Nat.reduceAdd]
  apply wpS_end
  intro γ w10 hb10 hG10 hA10
  have yg := hG10 _ (mL _ (mL _ (mR _)))
  dsimp only at yg
  have yh := hG10 _ (mL _ (mR _))
  dsimp only at yh
  have yi := hG10 _ (mR _)
  dsimp only at yi
  clear hG10 hA10
  simp only [List.drop_succ_cons, List.drop_zero]
  have hz10 := hb10.size
  (try simp only [sA, sB, sC, sD] at hz10)
  obtain ⟨b7, a7, n7, c7, e7, h7, f7⟩ := yi
  simp only [e7]
  clear e7 yg yh
  have xy := (hb10.block (w.heap.size) (blk_lt' xr.out)).trans xr.out
  clear zm zn po xr
  obtain ⟨yp, yq, gn, pw⟩ := bk2 xy
  replace xy := Lib.hid xy
  have za := (hb10.block (w.heap.size + 1 + 1) (blk_lt' xt.out)).trans xt.out
  clear gd ge pp xt
  obtain ⟨yr, yt, px, dc⟩ := bk2 za
  replace za := Lib.hid za
  have zb := (hb10.block (qa) (blk_lt' xu.out)).trans xu.out
  clear ju jv pq xu
  obtain ⟨yu, yv, gr, de⟩ := bk2 zb
  replace zb := Lib.hid zb
  have zc := (hb10.block (qb) (blk_lt' xv.out)).trans xv.out
  clear jw jx pr xv
  obtain ⟨yw, yx, gt, df⟩ := bk2 zc
  replace zc := Lib.hid zc
  replace ht := ht.below hb10
  replace hv := hv.below hb10
  have hB10 : Below w.heap.size w w10 := below_via hb10 (by assumption) (by go_size)
  clear yp
  clear yq
  clear gn xy
  clear yu
  clear yv
  clear gr zb
  clear yw
  clear yx
  clear gt zc
  try clear vr
  try clear vt
  try clear vu
  try clear vv
  try clear vw
  try clear vy
  try clear wc
  try clear wd
  try clear yj
  try clear yk
  try clear yl
  try clear ym
  try clear yn
  try clear yo
  clear hA hBB hAA hx hz hs ht hu hv m1 m2 m3 m4 m5 m6 m7 m8 m9 m10 m11 m12
  iterate 24 (first | (with_reducible show bodyPost _ _ _ _ _ _) | (with_reducible refine wp_ret ?_) | go_values | go_skip | go_guarded | go_step | go_upon | go_back | skip)
  refine bodyPost_ret (v := .agg #[.bool b7, .slice a7 n7 c7]) (by simp [results, Tryz.results113, go_sem, yr, yt]) rfl ⟨_, _, _, _, rfl, ?_, f7, ?_⟩
  ·have HO := za.out
   (exact ck)
  ·(exact ck)
end
section
open Go.RowKit
set_option linter.unusedVariables false
set_option maxHeartbeats 1000000
set_option maxRecDepth 20000
set_option linter.unusedSimpArgs false
attribute [local go_sem] openAt openUpon
theorem xdBottom_any (A B x z : Int) (b b2 : Bool) (a a2 : Option Addr) (n c n2 c2 : Nat) (w : World) (hA : -1000 ≤ A ∧ A ≤ 1000) (hBB : -10000 ≤ B ∧ B ≤ 10000) (hx : Wx w b a n c x) (hz : Wx w b2 a2 n2 c2 z) (lx : ln x ≤ 80) (lz : ln z ≤ 80) :
  Calls Tryz.prog 96 #[.agg #[.int .i64 A, .int .i64 B], .agg #[.bool b, .slice a n c, .bool b2, .slice a2 n2 c2]] w (NewW w (botZ A B x z)) := by
 obtain ⟨x2, hx2⟩ : ∃ v, x * x = v := ⟨_, rfl⟩
 obtain ⟨z2, hz2⟩ : ∃ v, z * z = v := ⟨_, rfl⟩
 obtain ⟨p1, hp1⟩ : ∃ v, x2 * x = v := ⟨_, rfl⟩
 obtain ⟨p2, hp2⟩ : ∃ v, x * z2 = v := ⟨_, rfl⟩
 obtain ⟨p3, hp3⟩ : ∃ v, p2 * A = v := ⟨_, rfl⟩
 obtain ⟨p4, hp4⟩ : ∃ v, p1 + p3 = v := ⟨_, rfl⟩
 obtain ⟨q1, hq1⟩ : ∃ v, z * z2 = v := ⟨_, rfl⟩
 obtain ⟨q2, hq2⟩ : ∃ v, q1 * B = v := ⟨_, rfl⟩
 obtain ⟨q3, hq3⟩ : ∃ v, p4 + q2 = v := ⟨_, rfl⟩
 obtain ⟨r1, hr1⟩ : ∃ v, z * q3 = v := ⟨_, rfl⟩
 obtain ⟨t, ht0⟩ : ∃ v, botZ A B x z = v := ⟨_, rfl⟩
 have RT := Lib.hid (show r1 * 4 = t by rw [← ht0]; subst hx2 hz2 hp1 hp2 hp3 hp4 hq1 hq2 hq3 hr1; rfl)
 have lA := ln_small (a := A) (by omega) (by omega)
 have lB := ln_small (a := B) (by omega) (by omega)
 have m1 : ln x2 ≤ 160 := by rw [← hx2]; exact ln_mul_le lx lx
 have m2 : ln z2 ≤ 160 := by rw [← hz2]; exact ln_mul_le lz lz
 have m3 : ln p1 ≤ 240 := by rw [← hp1]; exact ln_mul_le m1 lx
 have m4 : ln p2 ≤ 240 := by rw [← hp2]; exact ln_mul_le lx m2
 have m5 : ln p3 ≤ 245 := by rw [← hp3]; exact ln_mul_le m4 lA
 have m6 : ln p4 ≤ 246 := by rw [← hp4]; exact ln_add_le (by omega) m5
 have m7 : ln q1 ≤ 240 := by rw [← hq1]; exact ln_mul_le lz m2
 have m8 : ln q2 ≤ 245 := by rw [← hq2]; exact ln_mul_le m7 lB
 have m9 : ln q3 ≤ 247 := by rw [← hq3]; exact ln_add_le m6 (by omega)
 have m10 : ln r1 ≤ 327 := by rw [← hr1]; exact ln_mul_le lz m9
 rw [ht0]
 have X2 := Lib.hid hx2; have Z2 := Lib.hid hz2; have P1 := Lib.hid hp1; have P2 := Lib.hid hp2; have P3 := Lib.hid hp3; have P4 := Lib.hid hp4
 have Q1 := Lib.hid hq1; have Q2 := Lib.hid hq2; have Q3 := Lib.hid hq3; have R1 := Lib.hid hr1
 clear hx2 hz2 hp1 hp2 hp3 hp4 hq1 hq2 hq3 hr1 ht0 lA lB
 have tok1 := trivial
 have tok2 := trivial
 have tok3 := trivial
 have tok4 := trivial
 have tok5 := trivial
 have tok6 := trivial
 have tok7 := trivial
 have tok8 := trivial
 have tok9 := trivial
 have tok10 := trivial
 have tok11 := trivial
 go_enter Tryz.func96, Tryz.ntmps96
 go_wp2_with fail
 refine chk (fun W => Below w.heap.size w W ∧ W.heap[w.heap.size]? = some (.cells #[.int .i64 A, .int .i64 B] 32 (0, 0)) ∧ W.heap[w.heap.size + 1]? = some (.cells #[.bool b, .slice a n c, .bool b2, .slice a2 n2 c2] 107 (0, 0)) ∧ W.heap[w.heap.size + 1 + 1]? = some (.cells #[.bool false, .slice none 0 0] 80 (0, 0)) ∧ Wx W b a n c x ∧ Wx W b2 a2 n2 c2 z) (by refine ⟨?_, ?_, ?_, ?_, ?_, ?_⟩ <;> (exact ck)) ?_
 try clear hx
 try clear hz
 rintro w1 ⟨hB1, qf, qg, qh, hx', hz'⟩
 obtain ⟨zb, zc, vg, cx⟩ := bk2 qf
 replace qf := Lib.hid qf
 obtain ⟨zd, ze, zf, zg, vh, cy⟩ := bk4 qg
 replace qg := Lib.hid qg
 obtain ⟨zh, zi, vi, cz⟩ := bk2 qh
 replace qh := Lib.hid qh
 have hx := hx'
 clear hx'
 have hz := hz'
 clear hz'
 go_region
 go_upto_region 2 with (fail)
 replace qf := qf.out
 replace qg := qg.out
 replace qh := qh.out
 refine chk (fun W => Below w.heap.size w W ∧ W.heap[w.heap.size]? = some (.cells #[.int .i64 A, .int .i64 B] 32 (0, 0)) ∧ W.heap[w.heap.size + 1 + 1]? = some (.cells #[.bool false, .slice none 0 0] 80 (0, 0)) ∧ W.heap[w1.heap.size]? = some (.cells #[.bool b, .slice a n c] 80 (0, 0)) ∧ W.heap[w1.heap.size + 1]? = some (.cells #[.bool b2, .slice a2 n2 c2] 80 (0, 0)) ∧ Wx W b a n c x ∧ Wx W b2 a2 n2 c2 z) (by refine ⟨?_, ?_, ?_, ?_, ?_, ?_, ?_⟩ <;> (exact ck)) ?_
 try clear hx
 try clear hz
 clear zb zc vg qf
 clear zd ze zf zg vh qg
 clear zh zi vi qh
 clear hB1
 rintro w3 ⟨hB3, qb, qc, qd, qe, hx', hz'⟩
 obtain ⟨zj, zk, vj, kf⟩ := bk2 qb
 replace qb := Lib.hid qb
 obtain ⟨zm, zn, vk, kh⟩ := bk2 qc
 replace qc := Lib.hid qc
 obtain ⟨zo, zp, vm, ki⟩ := bk2 qd
 replace qd := Lib.hid qd
 obtain ⟨zq, zr, vn, kj⟩ := bk2 qe
 replace qe := Lib.hid qe
 have hx := hx'
 clear hx'
 have hz := hz'
 clear hz'
 generalize w1.heap.size + 1 = gz at *
 generalize w1.heap.size = gx at *
 clear w1
 rotate_left
 go_upto_region 2 with (fail)
 replace qf := qf.out
 replace qg := qg.out
 replace qh := qh.out
 refine chk (fun W => Below w.heap.size w W ∧ W.heap[w.heap.size]? = some (.cells #[.int .i64 A, .int .i64 B] 32 (0, 0)) ∧ W.heap[w.heap.size + 1 + 1]? = some (.cells #[.bool false, .slice none 0 0] 80 (0, 0)) ∧ W.heap[w1.heap.size + 1]? = some (.cells #[.bool b, .slice a n c] 80 (0, 0)) ∧ W.heap[w1.heap.size]? = some (.cells #[.bool b2, .slice a2 n2 c2] 80 (0, 0)) ∧ Wx W b a n c x ∧ Wx W b2 a2 n2 c2 z) (by refine ⟨?_, ?_, ?_, ?_, ?_, ?_, ?_⟩ <;> (exact ck)) ?_
 try clear hx
 try clear hz
 clear zb zc vg qf
 clear zd ze zf zg vh qg
 clear zh zi vi qh
 clear hB1
 rintro w3 ⟨hB3, qb, qc, qd, qe, hx', hz'⟩
 obtain ⟨zj, zk, vj, kf⟩ := bk2 qb
 replace qb := Lib.hid qb
 obtain ⟨zm, zn, vk, kh⟩ := bk2 qc
 replace qc := Lib.hid qc
 obtain ⟨zo, zp, vm, ki⟩ := bk2 qd
 replace qd := Lib.hid qd
 obtain ⟨zq, zr, vn, kj⟩ := bk2 qe
 replace qe := Lib.hid qe
 have hx := hx'
 clear hx'
 have hz := hz'
 clear hz'
 generalize w1.heap.size + 1 = gx at *
 generalize w1.heap.size = gz at *
 clear w1
 all_goals
  go_wp2_with (first | (have _t := tok4; go_at_call 109; (with_reducible refine ((xdSquare_eq (hz.below bel) Z2.out (by omega))).mono ?_); rintro e w4 ⟨b3, a3, n3, c3, rfl, hs, f3, hb4⟩; clear tok4 _t; have hz4 := hb4.size; (try simp only [sA, sB, sC, sD] at hz4); (try (obtain ⟨kq, uy⟩ := cfAt hb4 (w.heap.size); have jx := kq 0; have jy := kq 1; clear kq; simp [go_sem, *] at jx jy uy)); (try have bd : w.heap.size < w4.heap.size := by omega); (try (obtain ⟨kq, ga⟩ := cfAt hb4 (w.heap.size + 1); have jz := kq 0; have ya := kq 1; have yb := kq 2; have yc := kq 3; clear kq; simp [go_sem, *] at jz ya yb yc ga)); (try have bf : w.heap.size + 1 < w4.heap.size := by omega); (try (obtain ⟨kq, gb⟩ := cfAt hb4 (w.heap.size + 1 + 1); have yd := kq 0; have ye := kq 1; clear kq; simp [go_sem, *] at yd ye gb)); (try have bg : w.heap.size + 1 + 1 < w4.heap.size := by omega); (try clear pr pt bh); (try clear bi); (try clear pu pv pw px bj); (try clear bk); (try clear dc de bm); (try clear bn); (try clear df dg br); (try clear bu); (try clear dh di dj dk bw); (try clear bx); (try clear dl dm cd); (try clear ce); (try clear dn dq cf); (try clear cg); (try clear dr dt du dv ch); (try clear ci); (try clear dw dx cj); (try clear cl)))
  have ql := (hb4.block (w.heap.size) (blk_lt' qb.out)).trans qb.out
  clear zj zk vj qb
  obtain ⟨vw, vy, kl, nc⟩ := bk2 ql
  replace ql := Lib.hid ql
  have qm := (hb4.block (w.heap.size + 1 + 1) (blk_lt' qc.out)).trans qc.out
  clear zm zn vk qc
  obtain ⟨wc, wd, km, nd⟩ := bk2 qm
  replace qm := Lib.hid qm
  have qn := (hb4.block (gx) (blk_lt' qd.out)).trans qd.out
  clear zo zp vm qd
  obtain ⟨wg, wi, kn, nf⟩ := bk2 qn
  replace qn := Lib.hid qn
  have qo := (hb4.block (gz) (blk_lt' qe.out)).trans qe.out
  clear zq zr vn qe
  obtain ⟨wj, wk, ko, ng⟩ := bk2 qo
  replace qo := Lib.hid qo
  replace hx := hx.below hb4
  replace hz := hz.below hb4
  have hB4 : Below w.heap.size w w4 := below_via hb4 (by assumption) (by go_size)
  have hg4 : w3.heap.size ≤ w4.heap.size := hb4.size
  have hg5 : w.heap.size ≤ w4.heap.size := hB4.size
  have nC : w.heap.size ≠ w4.heap.size := by omega
  have nO : w.heap.size + 1 + 1 ≠ w4.heap.size := by omega
  have nX : gx ≠ w4.heap.size := by omega
  have nZ : gz ≠ w4.heap.size := by omega
  replace ql := ql.out
  replace qm := qm.out
  replace qn := qn.out
  replace qo := qo.out
  refine chk (fun W => Below w.heap.size w W ∧ W.heap[w.heap.size]? = some (.cells #[.int .i64 A, .int .i64 B] 32 (0, 0)) ∧ W.heap[w.heap.size + 1 + 1]? = some (.cells #[.bool false, .slice none 0 0] 80 (0, 0)) ∧ W.heap[gx]? = some (.cells #[.bool b, .slice a n c] 80 (0, 0)) ∧ W.heap[gz]? = some (.cells #[.bool b2, .slice a2 n2 c2] 80 (0, 0)) ∧ W.heap[w4.heap.size]? = some (.cells #[.bool b3, .slice a3 n3 c3] 80 (0, 0)) ∧ Wx W b a n c x ∧ Wx W b2 a2 n2 c2 z ∧ Wx W b3 a3 n3 c3 z2) (by refine ⟨?_, ?_, ?_, ?_, ?_, ?_, ?_, ?_, ?_⟩ <;> (exact ck)) ?_
  try clear hx
  try clear hz
  try clear hs
  clear vw vy kl ql
  clear wc wd km qm
  clear wg wi kn qn
  clear wj wk ko qo
  clear hB4
  rintro w5 ⟨hB5, qq, qr, qt, qu, qv, hx', hz', hs'⟩
  obtain ⟨zt, zu, kp, kr⟩ := bk2 qq
  replace qq := Lib.hid qq
  obtain ⟨wl, wm, ks, kt⟩ := bk2 qr
  replace qr := Lib.hid qr
  obtain ⟨qw, qx, ku, kw⟩ := bk2 qt
  replace qt := Lib.hid qt
  obtain ⟨wn, wq, kx, ky⟩ := bk2 qu
  replace qu := Lib.hid qu
  obtain ⟨zv, zw, kz, pa⟩ := bk2 qv
  replace qv := Lib.hid qv
  have hx := hx'
  clear hx'
  have hz := hz'
  clear hz'
  have hs := hs'
  clear hs'
  clear f3
  generalize w4.heap.size = gs at *
  refine wp_open (n := 12) (by kernel_rfl) (by kernel_rfl) (by kernel_rfl) (by kernel_rfl) ?_
  simp only [List.take_succ_cons, List.take_zero]
  apply wpS_quiet
  ·intro γ W hW hp
   have hs := hW.size
   (try simp only [sA, sB, sC, sD] at hs)
   have qj := fun x => (xcA hW (gx) 0 (by first | omega | go_size) x).trans qw
   have qk := fun x => (xcA hW (gx) 1 (by first | omega | go_size) x).trans qx
   clear hW hp
   refine ⟨rfl, ?_⟩
   go_big_quiet_op
   first | exact rfl
  ·exact locS_const _
  try simp only [Act.put, List.setIfInBounds_toArray, List.set_cons_succ, List.set_cons_zero, Nat.reduceAdd]
  apply wpS_open (openW w.heap.size x2)
  ·intro γ W hW hp
   refine ⟨rfl, ?_⟩
   go_simp
   refine plainNew rfl ?_
   exact open_W (xdSquare_eq (hx.below hW) X2.out (by omega)) (by (have := hW.size; (try simp only [sA, sB, sC, sD] at this); omega))
  try simp only [Act.put, List.setIfInBounds_toArray, List.set_cons_succ, List.set_cons_zero, Nat.reduceAdd]
  apply wpS_quiet
  ·intro γ W hW hp
   have hs := hW.size
   (try simp only [sA, sB, sC, sD] at hs)
   have qj := fun x => (xcA hW (gx) 0 (by first | omega | go_size) x).trans qw
   have qk := fun x => (xcA hW (gx) 1 (by first | omega | go_size) x).trans qx
   clear hW hp
   refine ⟨rfl, ?_⟩
   go_big_quiet_op
   first | exact rfl
  ·exact locS_const _
  try simp only [Act.put, List.setIfInBounds_toArray, List.set_cons_succ, List.set_cons_zero, Nat.reduceAdd]
  apply wpS_open (openW w.heap.size p1)
  ·intro γ W hW hp
   have gc := hp _ (mR _) (by kernel_rfl)
   dsimp only at gc
   refine ⟨rfl, ?_⟩
   go_simp
   refine plainNew rfl ?_
   obtain ⟨b4, a4, n4, c4, e4, h4, _⟩ := gc
   rw [e4]
   exact open_W (bgMul_eq h4 (hx.below hW) P1.out (by omega) (by omega)) (by (have := hW.size; (try simp only [sA, sB, sC, sD] at this); omega))
  try simp only [Act.put, List.setIfInBounds_toArray, List.set_cons_succ, List.set_cons_zero, Nat.reduceAdd]
  apply wpS_quiet
  ·intro γ W hW hp
   have hs := hW.size
   (try simp only [sA, sB, sC, sD] at hs)
   have qj := fun x => (xcA hW (gx) 0 (by first | omega | go_size) x).trans qw
   have qk := fun x => (xcA hW (gx) 1 (by first | omega | go_size) x).trans qx
   clear hW hp
   refine ⟨rfl, ?_⟩
   go_big_quiet_op
   first | exact rfl
  ·exact locS_const _
  try simp only [Act.put, List.setIfInBounds_toArray, List.set_cons_succ, List.set_cons_zero, Nat.reduceAdd]
  apply wpS_quiet
  ·intro γ W hW hp
   have hs := hW.size
   (try simp only [sA, sB, sC, sD] at hs)
   have qj := fun x => (xcA hW (gs) 0 (by first | omega | go_size) x).trans zv
   have qk := fun x => (xcA hW (gs) 1 (by first | omega | go_size) x).trans zw
   clear hW hp
   refine ⟨rfl, ?_⟩
   go_big_quiet_op
   first | exact rfl
  ·exact locS_const _
  try simp only [Act.put, List.setIfInBounds_toArray, List.set_cons_succ, List.set_cons_zero, Nat.reduceAdd]
  apply wpS_open (openW w.heap.size p2)
  ·intro γ W hW hp
   refine ⟨rfl, ?_⟩
   go_simp
   refine plainNew rfl ?_
   exact open_W (bgMul_eq (hx.below hW) (hs.below hW) P2.out (by omega) (by omega)) (by (have := hW.size; (try simp only [sA, sB, sC, sD] at this); omega))
  try simp only [Act.put, List.setIfInBounds_toArray, List.set_cons_succ, List.set_cons_zero, Nat.reduceAdd]
  apply wpS_quiet
  ·intro γ W hW hp
   refine ⟨rfl, ?_⟩
   go_big_quiet_op
   first | exact rfl
  ·exact locS_const _
  try simp only [Act.put, List.setIfInBounds_toArray, List.set_cons_succ, List.set_cons_zero, Nat.reduceAdd]
  apply wpS_quiet
  ·intro γ W hW hp
   have hs := hW.size
   (try simp only [sA, sB, sC, sD] at hs)
   have qj := fun x => (xcA hW (w.heap.size) 0 (by first | omega | go_size) x).trans zt
   have qk := fun x => (xcA hW (w.heap.size) 1 (by first | omega | go_size) x).trans zu
   clear hW hp
   refine ⟨rfl, ?_⟩
   go_big_quiet_op
   first | exact rfl
  ·exact locS_const _
  try simp only [Act.put, List.setIfInBounds_toArray, List.set_cons_succ, List.set_cons_zero, Nat.reduceAdd]
  apply wpS_open (openW w.heap.size p3)
  ·intro γ W hW hp
   have xy := hp _ (mR _) (by kernel_rfl)
   dsimp only at xy
   refine ⟨rfl, ?_⟩
   go_simp
   refine plainNew rfl ?_
   obtain ⟨b4, a4, n4, c4, e4, h4, _⟩ := xy
   rw [e4]
   exact open_W (bgTimes_eq h4 P3.out (by omega) (by omega)) (by (have := hW.size; (try simp only [sA, sB, sC, sD] at this); omega))
  try simp only [Act.put, List.setIfInBounds_toArray, List.set_cons_succ, List.set_cons_zero, Nat.reduceAdd]
  apply wpS_open (openW w.heap.size p4)
  ·intro γ W hW hp
   have za := hp _ (mL _ (mL _ (mR _))) (by kernel_rfl)
   dsimp only at za
   have gd := hp _ (mR _) (by kernel_rfl)
   dsimp only at gd
   refine ⟨rfl, ?_⟩
   go_simp
   refine plainNew rfl ?_
   obtain ⟨b4, a4, n4, c4, e4, h4, _⟩ := za
   obtain ⟨b5, a5, n5, c5, e5, h5, _⟩ := gd
   rw [e4, e5]
   exact open_W (bgAdd_eq h4 h5 P4.out (by omega) (by omega)) (by (have := hW.size; (try simp only [sA, sB, sC, sD] at this); omega))
  try simp only [Act.put, List.setIfInBounds_toArray, List.set_cons_succ, List.set_cons_zero, Nat.reduceAdd]
  apply wpS_open (newBox _ _ _)
  ·intro γ W hW hp
   refine ⟨rfl, ?_⟩
   go_simp
   exact ⟨⟨⟨_, rfl, hW.size, heap_alloc_new _ _⟩, fun _ => ⟨_, rfl, Nat.le_refl _, by simp⟩⟩, (Below.refl _ _).alloc (Nat.le_refl _) _⟩
  try simp only [Act.put, List.setIfInBounds_toArray, List.set_cons_succ, List.set_cons_zero, Nat.reduceAdd]
  apply wpS_end
  intro γ w6 hb6 hG6 hA6
  have vo := hG6 _ (mL _ (mL _ (mL _ (mL _ (mL _ (mR _))))))
  dsimp only at vo
  have vp := hG6 _ (mL _ (mL _ (mL _ (mL _ (mR _)))))
  dsimp only at vp
  have vq := hG6 _ (mL _ (mL _ (mL _ (mR _))))
  dsimp only at vq
  have vr := hG6 _ (mL _ (mL _ (mR _)))
  dsimp only at vr
  have jn := hG6 _ (mL _ (mR _))
  dsimp only at jn
  obtain ⟨qa, jj, qi, xn⟩ := hG6 _ (mR _)
  dsimp only at jj qi xn
  have ge := fun o => blk_cell xn o
  have gf := fun o => blk_frozen xn o
  have cn := blk_lt' xn
  have fa : w.heap.size ≠ qa := Nat.ne_of_lt (Nat.lt_of_lt_of_le kr qi)
  have fb : w.heap.size + 1 + 1 ≠ qa := Nat.ne_of_lt (Nat.lt_of_lt_of_le kt qi)
  have fc : gx ≠ qa := Nat.ne_of_lt (Nat.lt_of_lt_of_le kw qi)
  have fd : gz ≠ qa := Nat.ne_of_lt (Nat.lt_of_lt_of_le ky qi)
  have fe : gs ≠ qa := Nat.ne_of_lt (Nat.lt_of_lt_of_le pa qi)
  have co : w.heap.size ≤ qa := Nat.le_trans hB5.size qi
  clear hG6 hA6
  try simp only [jj]
  clear jj
  simp only [List.drop_succ_cons, List.drop_zero]
  have hz6 := hb6.size
  (try simp only [sA, sB, sC, sD] at hz6)
  obtain ⟨b5, a5, n5, c5, e5, hu, -⟩ := jn
  simp only [e5]
  clear e5 vo vp vq vr
  have qy := (hb6.block (w.heap.size) (blk_lt' qq.out)).trans qq.out
  clear zt zu kp qq
  obtain ⟨ws, wt, pb, nh⟩ := bk2 qy
  replace qy := Lib.hid qy
  have qz := (hb6.block (w.heap.size + 1 + 1) (blk_lt' qr.out)).trans qr.out
  clear wl wm ks qr
  obtain ⟨wu, wv, pc, ni⟩ := bk2 qz
  replace qz := Lib.hid qz
  have xa := (hb6.block (gx) (blk_lt' qt.out)).trans qt.out
  clear qw qx ku qt
  obtain ⟨ww, wx, pd, nj⟩ := bk2 xa
  replace xa := Lib.hid xa
  have xb := (hb6.block (gz) (blk_lt' qu.out)).trans qu.out
  clear wn wq kx qu
  obtain ⟨wy, wz, pe, nk⟩ := bk2 xb
  replace xb := Lib.hid xb
  have xc := (hb6.block (gs) (blk_lt' qv.out)).trans qv.out
  clear zv zw kz qv
  obtain ⟨ua, ub, pf, nl⟩ := bk2 xc
  replace xc := Lib.hid xc
  replace hx := hx.below hb6
  replace hz := hz.below hb6
  replace hs := hs.below hb6
  have hB6 : Below w.heap.size w w6 := below_via hb6 (by assumption) (by go_size)
  go_wp2_with fail
  replace qy := qy.out
  replace qz := qz.out
  replace xa := xa.out
  replace xb := xb.out
  replace xc := xc.out
  refine chk (fun W => Below w.heap.size w W ∧ W.heap[w.heap.size]? = some (.cells #[.int .i64 A, .int .i64 B] 32 (0, 0)) ∧ W.heap[w.heap.size + 1 + 1]? = some (.cells #[.bool false, .slice none 0 0] 80 (0, 0)) ∧ W.heap[gz]? = some (.cells #[.bool b2, .slice a2 n2 c2] 80 (0, 0)) ∧ W.heap[gs]? = some (.cells #[.bool b3, .slice a3 n3 c3] 80 (0, 0)) ∧ W.heap[qa]? = some (.cells #[.bool b5, .slice a5 n5 c5] 80 (0, 0)) ∧ Wx W b2 a2 n2 c2 z ∧ Wx W b3 a3 n3 c3 z2 ∧ Wx W b5 a5 n5 c5 p4) (by refine ⟨?_, ?_, ?_, ?_, ?_, ?_, ?_, ?_, ?_⟩ <;> (exact ck)) ?_
  try clear hz
  try clear hs
  try clear hu
  clear ws wt pb qy
  clear wu wv pc qz
  clear ww wx pd xa
  clear wy wz pe xb
  clear ua ub pf xc
  clear hB6
  try clear ge
  try clear gf
  try clear xn
  rintro w7 ⟨hB7, xd, xe, xf, xg, xh, hz', hs', hu'⟩
  obtain ⟨zx, zy, pg, nm⟩ := bk2 xd
  replace xd := Lib.hid xd
  obtain ⟨uc, ud, ph, np⟩ := bk2 xe
  replace xe := Lib.hid xe
  obtain ⟨ja, jb, pi, nr⟩ := bk2 xf
  replace xf := Lib.hid xf
  obtain ⟨jc, jd, pj, nt⟩ := bk2 xg
  replace xg := Lib.hid xg
  obtain ⟨je, jf, pk, nu⟩ := bk2 xh
  replace xh := Lib.hid xh
  have hz := hz'
  clear hz'
  have hs := hs'
  clear hs'
  have hu := hu'
  clear hu'
  refine wp_open (n := 8) (by kernel_rfl) (by kernel_rfl) (by kernel_rfl) (by kernel_rfl) ?_
  simp only [List.take_succ_cons, List.take_zero]
  apply wpS_quiet
  ·intro γ W hW hp
   have hs := hW.size
   (try simp only [sA, sB, sC, sD] at hs)
   have qj := fun x => (xcA hW (qa) 0 (by first | omega | go_size) x).trans je
   have qk := fun x => (xcA hW (qa) 1 (by first | omega | go_size) x).trans jf
   clear hW hp
   refine ⟨rfl, ?_⟩
   go_big_quiet_op
   first | exact rfl
  ·exact locS_const _
  try simp only [Act.put, List.setIfInBounds_toArray, List.set_cons_succ, List.set_cons_zero, Nat.reduceAdd]
  apply wpS_quiet
  ·intro γ W hW hp
   have hs := hW.size
   (try simp only [sA, sB, sC, sD] at hs)
   have qj := fun x => (xcA hW (gz) 0 (by first | omega | go_size) x).trans ja
   have qk := fun x => (xcA hW (gz) 1 (by first | omega | go_size) x).trans jb
   clear hW hp
   refine ⟨rfl, ?_⟩
   go_big_quiet_op
   first | exact rfl
  ·exact locS_const _
  try simp only [Act.put, List.setIfInBounds_toArray, List.set_cons_succ, List.set_cons_zero, Nat.reduceAdd]
  apply wpS_quiet
  ·intro γ W hW hp
   have hs := hW.size
   (try simp only [sA, sB, sC, sD] at hs)
   have qj := fun x => (xcA hW (gs) 0 (by first | omega | go_size) x).trans jc
   have qk := fun x => (xcA hW (gs) 1 (by first | omega | go_size) x).trans jd
   clear hW hp
   refine ⟨rfl, ?_⟩
   go_big_quiet_op
   first | exact rfl
  ·exact locS_const _
  try simp only [Act.put, List.setIfInBounds_toArray, List.set_cons_succ, List.set_cons_zero, Nat.reduceAdd]
  apply wpS_open (openW w.heap.size q1)
  ·intro γ W hW hp
   refine ⟨rfl, ?_⟩
   go_simp
   refine plainNew rfl ?_
   exact open_W (bgMul_eq (hz.below hW) (hs.below hW) Q1.out (by omega) (by omega)) (by (have := hW.size; (try simp only [sA, sB, sC, sD] at this); omega))
  try simp only [Act.put, List.setIfInBounds_toArray, List.set_cons_succ, List.set_cons_zero, Nat.reduceAdd]
  apply wpS_quiet
  ·intro γ W hW hp
   refine ⟨rfl, ?_⟩
   go_big_quiet_op
   first | exact rfl
  ·exact locS_const _
  try simp only [Act.put, List.setIfInBounds_toArray, List.set_cons_succ, List.set_cons_zero, Nat.reduceAdd]
  apply wpS_quiet
  ·intro γ W hW hp
   have hs := hW.size
   (try simp only [sA, sB, sC, sD] at hs)
   have qj := fun x => (xcA hW (w.heap.size) 0 (by first | omega | go_size) x).trans zx
   have qk := fun x => (xcA hW (w.heap.size) 1 (by first | omega | go_size) x).trans zy
   clear hW hp
   refine ⟨rfl, ?_⟩
   go_big_quiet_op
   first | exact rfl
  ·exact locS_const _
  try simp only [Act.put, List.setIfInBounds_toArray, List.set_cons_succ, List.set_cons_zero, Nat.reduceAdd]
  apply wpS_open (openW w.heap.size q2)
  ·intro γ W hW hp
   have za := hp _ (mR _) (by kernel_rfl)
   dsimp only at za
   refine ⟨rfl, ?_⟩
   go_simp
   refine plainNew rfl ?_
   obtain ⟨b5, a5, n5, c5, e5, h5, _⟩ := za
   rw [e5]
   exact open_W (bgTimes_eq h5 Q2.out (by omega) (by omega)) (by (have := hW.size; (try simp only [sA, sB, sC, sD] at this); omega))
  try simp only [Act.put, List.setIfInBounds_toArray, List.set_cons_succ, List.set_cons_zero, Nat.reduceAdd]
  apply wpS_open (openW w.heap.size q3)
  ·intro γ W hW hp
   have xy := hp _ (mR _) (by kernel_rfl)
   dsimp only at xy
   refine ⟨rfl, ?_⟩
   go_simp
   refine plainNew rfl ?_
   obtain ⟨b5, a5, n5, c5, e5, h5, _⟩ := xy
   rw [e5]
   exact open_W (bgAdd_eq (hu.below hW) h5 Q3.out (by omega) (by omega)) (by (have := hW.size; (try simp only [sA, sB, sC, sD] at this); omega))
  try simp only [Act.put, List.setIfInBounds_toArray, List.set_cons_succ, List.set_cons_zero, Nat.reduceAdd]
  apply wpS_end
  intro γ w8 hb8 hG8 hA8
  have vt := hG8 _ (mL _ (mL _ (mR _)))
  dsimp only at vt
  have vu := hG8 _ (mL _ (mR _))
  dsimp only at vu
  have vv := hG8 _ (mR _)
  dsimp only at vv
  clear hG8 hA8
  simp only [List.drop_succ_cons, List.drop_zero]
  have hz8 := hb8.size
  (try simp only [sA, sB, sC, sD] at hz8)
  obtain ⟨b6, a6, n6, c6, e6, hv, -⟩ := vv
  simp only [e6]
  clear e6 vt vu
  have xi := (hb8.block (w.heap.size) (blk_lt' xd.out)).trans xd.out
  clear zx zy pg xd
  obtain ⟨ue, uf, pm, nx⟩ := bk2 xi
  replace xi := Lib.hid xi
  have xj := (hb8.block (w.heap.size + 1 + 1) (blk_lt' xe.out)).trans xe.out
  clear uc ud ph xe
  obtain ⟨ug, uh, pn, ny⟩ := bk2 xj
  replace xj := Lib.hid xj
  have xk := (hb8.block (gz) (blk_lt' xf.out)).trans xf.out
  clear ja jb pi xf
  obtain ⟨ui, uj, po, nz⟩ := bk2 xk
  replace xk := Lib.hid xk
  have xl := (hb8.block (gs) (blk_lt' xg.out)).trans xg.out
  clear jc jd pj xg
  obtain ⟨uk, ul, pp, ma⟩ := bk2 xl
  replace xl := Lib.hid xl
  have xm := (hb8.block (qa) (blk_lt' xh.out)).trans xh.out
  clear je jf pk xh
  obtain ⟨um, un, pq, mb⟩ := bk2 xm
  replace xm := Lib.hid xm
  replace hz := hz.below hb8
  replace hs := hs.below hb8
  replace hu := hu.below hb8
  have hB8 : Below w.heap.size w w8 := below_via hb8 (by assumption) (by go_size)
  go_upto_region 5 with (fail)
  replace xi := xi.out
  replace xj := xj.out
  replace xk := xk.out
  replace xl := xl.out
  replace xm := xm.out
  refine chk (fun W => Below w.heap.size w W ∧ W.heap[w.heap.size + 1 + 1]? = some (.cells #[.bool false, .slice none 0 0] 80 (0, 0)) ∧ W.heap[gz]? = some (.cells #[.bool b2, .slice a2 n2 c2] 80 (0, 0)) ∧ W.heap[qa]? = some (.cells #[.bool b6, .slice a6 n6 c6] 80 (0, 0)) ∧ Wx W b2 a2 n2 c2 z ∧ Wx W b6 a6 n6 c6 q3) (by refine ⟨?_, ?_, ?_, ?_, ?_, ?_⟩ <;> (exact ck)) ?_
  try clear hz
  try clear hv
  clear ue uf pm xi
  clear ug uh pn xj
  clear ui uj po xk
  clear uk ul pp xl
  clear um un pq xm
  clear hB8
  rintro w9 ⟨hB9, jk, jl, jm, hz', hv'⟩
  obtain ⟨fo, fp, mc, me⟩ := bk2 jk
  replace jk := Lib.hid jk
  obtain ⟨fq, ft, mf, mg⟩ := bk2 jl
  replace jl := Lib.hid jl
  obtain ⟨fu, fv, mh, mi⟩ := bk2 jm
  replace jm := Lib.hid jm
  have hz := hz'
  clear hz'
  have hv := hv'
  clear hv'
  clear hA hBB hx lx m1 m2 m3 m4 m5 m6 m7 m8
  go_wp2_with (first | (have _t := tok10; go_at_call 111; (with_reducible refine ((bgMul_eq (hz.below bel) (hv.below bel) R1.out (by omega) (by omega))).mono ?_); rintro e w10 ⟨b6, a6, n6, c6, rfl, h6, f6, hb10⟩; clear tok10 _t; have hz10 := hb10.size; (try simp only [sA, sB, sC, sD] at hz10); (try (obtain ⟨kq, jg⟩ := cfAt hb10 (w.heap.size); have xo := kq 0; have xp := kq 1; clear kq; simp [go_sem, *] at xo xp jg)); (try have uo : w.heap.size < w10.heap.size := by omega); (try (obtain ⟨kq, jh⟩ := cfAt hb10 (w.heap.size + 1); have xq := kq 0; have xr := kq 1; have xt := kq 2; have xu := kq 3; clear kq; simp [go_sem, *] at xq xr xt xu jh)); (try have uq : w.heap.size + 1 < w10.heap.size := by omega); (try (obtain ⟨kq, ji⟩ := cfAt hb10 (w.heap.size + 1 + 1); have xv := kq 0; have xw := kq 1; clear kq; simp [go_sem, *] at xv xw ji)); (try have ur : w.heap.size + 1 + 1 < w10.heap.size := by omega); (try clear ff fh cp); (try clear cq); (try clear fi fj fk fl cr); (try clear ct); (try clear fm fn cu); (try clear cw); (try clear yf yg gg); (try clear gh); (try clear yh yi yj yk gi); (try clear gj); (try clear yl ym gk); (try clear gl); (try clear yn yo gm); (try clear gn); (try clear yp yq yr yt gr); (try clear gt); (try clear yu yv gu); (try clear gv); (try clear yw yx gy); (try clear ka); (try clear yz va vb vc kb); (try clear kc); (try clear vd vf kd); (try clear ke)) | (have _t := tok11; go_at_call 112; (with_reducible refine ((bgTimes_eq h6 RT.out (by omega) (by omega))).mono ?_); rintro e w11 ⟨b7, a7, n7, c7, rfl, h7, f7, hb11⟩; clear tok11 _t; have hz11 := hb11.size; (try simp only [sA, sB, sC, sD] at hz11); (try (obtain ⟨kq, us⟩ := cfAt hb11 (w.heap.size); have jo := kq 0; have jp := kq 1; clear kq; simp [go_sem, *] at jo jp us)); (try have fw : w.heap.size < w11.heap.size := by omega); (try (obtain ⟨kq, ut⟩ := cfAt hb11 (w.heap.size + 1); have jq := kq 0; have jr := kq 1; have jt := kq 2; have ju := kq 3; clear kq; simp [go_sem, *] at jq jr jt ju ut)); (try have ba : w.heap.size + 1 < w11.heap.size := by omega); (try (obtain ⟨kq, uw⟩ := cfAt hb11 (w.heap.size + 1 + 1); have jv := kq 0; have jw := kq 1; clear kq; simp [go_sem, *] at jv jw uw)); (try have bc : w.heap.size + 1 + 1 < w11.heap.size := by omega); (try clear yf yg gg); (try clear gh); (try clear yh yi yj yk gi); (try clear gj); (try clear yl ym gk); (try clear gl); (try clear yn yo gm); (try clear gn); (try clear yp yq yr yt gr); (try clear gt); (try clear yu yv gu); (try clear gv); (try clear yw yx gy); (try clear ka); (try clear yz va vb vc kb); (try clear kc); (try clear vd vf kd); (try clear ke); (try clear xo xp jg); (try clear uo); (try clear xq xr xt xu jh); (try clear uq); (try clear xv xw ji); (try clear ur)))
  refine bodyPost_ret (v := .agg #[.bool b7, .slice a7 n7 c7]) (by simp [results, Tryz.results96, go_sem, *]) rfl ⟨_, _, _, _, rfl, ⟨h7.neg, ?_⟩, ?_, ?_⟩
  ·have hr7 := h7.row
   (repeat' first | exact hr7 | refine Sx.set ?_ ?_ _ _ | refine Sx.alloc ?_ _ | refine Sx.drew ?_ | (intro A e; have := f7 A e; (try simp only [sA, sB, sC, sD] at this); omega))
  ·(intro A e; have := f7 A e; (try simp only [sA, sB, sC, sD] at this); omega)
  exact bel
end
end Go.Proofs.YtnkmgpmehkholaaGreat
