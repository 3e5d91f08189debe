/- Lemmas and contracts of functions. No condition. -/
import Derived.Test.YtnkmgpmehkholaaGreatPq13
import Derived.Test.YtnkmgpmehkholaaGreatPq22
import Derived.Test.YtnkmgpmehkholaaGreatPq31
namespace Go.Proofs.YtnkmgpmehkholaaGreat
section
open Go.RowKit
set_option linter.unusedVariables false
set_option maxHeartbeats 1000000
set_option maxRecDepth 20000
set_option linter.unusedSimpArgs false
attribute [local go_sem] openAt openUpon
theorem bgMul_eq {b b2 : Bool} {a a2 : Option Addr} {n c n2 c2 : Nat} {x y v : Int} {W : World} (h1 : Wx W b a n c x) (h2 : Wx W b2 a2 n2 c2 y) (e : x * y = v) (l1 : ln x ≤ 10000) (l2 : ln y ≤ 10000) :
  Calls Tryz.prog 111 #[.agg #[.bool b, .slice a n c], .agg #[.bool b2, .slice a2 n2 c2]] W (NewW W v) := by
 subst e; exact bgMul_any b b2 a a2 n c n2 c2 x y W h1 h2 (by have := h1.ln; omega) (by have := h2.ln; omega)
theorem bgTimes_eq {b : Bool} {a : Option Addr} {n c : Nat} {x d v : Int} {W : World} (h1 : Wx W b a n c x) (e : x * d = v) (l1 : ln x ≤ 10000) (hd : -9223372036854775807 ≤ d ∧ d ≤ 9223372036854775807) :
  Calls Tryz.prog 112 #[.agg #[.bool b, .slice a n c], .int .i64 d] W (NewW W v) := by
 subst e; exact bgTimes_any b a n c x d W h1 (by have := h1.ln; omega) hd.1 hd.2
theorem bgSub_eq {b b2 : Bool} {a a2 : Option Addr} {n c n2 c2 : Nat} {x y v : Int} {W : World} (h1 : Wx W b a n c x) (h2 : Wx W b2 a2 n2 c2 y) (e : x - y = v) (l1 : ln x ≤ 10000) (l2 : ln y ≤ 10000) :
  Calls Tryz.prog 131 #[.agg #[.bool b, .slice a n c], .agg #[.bool b2, .slice a2 n2 c2]] W (NewW W v) := by
 subst e; exact bgSub_any b b2 a a2 n c n2 c2 x y W h1 h2 (by have := h1.ln; omega) (by have := h2.ln; omega)
theorem bgAdd_eq {b b2 : Bool} {a a2 : Option Addr} {n c n2 c2 : Nat} {x y v : Int} {W : World} (h1 : Wx W b a n c x) (h2 : Wx W b2 a2 n2 c2 y) (e : x + y = v) (l1 : ln x ≤ 10000) (l2 : ln y ≤ 10000) :
  Calls Tryz.prog 110 #[.agg #[.bool b, .slice a n c], .agg #[.bool b2, .slice a2 n2 c2]] W (NewW W v) := by
 subst e; exact bgAdd_any b b2 a a2 n c n2 c2 x y W h1 h2 (by have := h1.ln; omega) (by have := h2.ln; omega)
theorem xdSquare_eq {b : Bool} {a : Option Addr} {n c : Nat} {x v : Int} {w : World} (hs : Wx w b a n c x) (e : x * x = v) (l1 : ln x ≤ 10000) :
  Calls Tryz.prog 109 #[.agg #[.bool b, .slice a n c]] w (NewW w v) := by
 have E := Lib.hid e
 clear e
 have e := E.out
 replace e := Lib.hid e
 have tok1 := trivial
 go_enter Tryz.func109, Tryz.ntmps109
 go_wp2_with (first | (have _t := tok1; go_at_call 111; (with_reducible refine ((bgMul_eq (hs.below bel) (hs.below bel) E.out l1 l1)).mono ?_); rintro e w1 ⟨b7, a7, n7, c7, rfl, h7, f7, hb1⟩; clear tok1 _t; have hz1 := hb1.size; (try simp only [sA, sB, sC, sD] at hz1); (try (obtain ⟨kq, qg⟩ := cfAt hb1 (w.heap.size); have qc := kq 0; have qd := kq 1; clear kq; simp [go_sem, *] at qc qd qg)); (try have qi : w.heap.size < w1.heap.size := by omega); (try (obtain ⟨kq, qh⟩ := cfAt hb1 (w.heap.size + 1); have qe := kq 0; have qf := kq 1; clear kq; simp [go_sem, *] at qe qf qh)); (try have qj : w.heap.size + 1 < w1.heap.size := by omega)))
 refine bodyPost_ret (v := .agg #[.bool b7, .slice a7 n7 c7]) (by simp [results, Tryz.results109, go_sem, *]) rfl ⟨_, _, _, _, rfl, ⟨h7.neg, ?_⟩, ?_, ?_⟩
 ·have hr7 := h7.row
  (repeat' first | exact hr7 | refine Sx.set ?_ ?_ _ _ | refine Sx.alloc ?_ _ | refine Sx.drew ?_ | (intro A e; have := f7 A e; (try simp only [sA, sB, sC, sD] at this); omega))
 ·(intro A e; have := f7 A e; (try simp only [sA, sB, sC, sD] at this); omega)
 exact bel
theorem xdTop_any (A B x z : Int) (b b2 : Bool) (a a2 : Option Addr) (n c n2 c2 : Nat) (w : World) (hA : -1000 ≤ A ∧ A ≤ 1000) (hBB : -10000 ≤ B ∧ B ≤ 10000) (hx : Wx w b a n c x) (hz : Wx w b2 a2 n2 c2 z) (lx : ln x ≤ 80) (lz : ln z ≤ 80) :
  Calls Tryz.prog 113 #[.agg #[.int .i64 A, .int .i64 B], .agg #[.bool b, .slice a n c, .bool b2, .slice a2 n2 c2]] w (NewW w (topZ A B x z)) := by
 obtain ⟨x2, hx2⟩ : ∃ v, x * x = v := ⟨_, rfl⟩
 obtain ⟨z2, hz2⟩ : ∃ v, z * z = v := ⟨_, rfl⟩
 obtain ⟨p1, hp1⟩ : ∃ v, x2 * x2 = v := ⟨_, rfl⟩
 obtain ⟨p2, hp2⟩ : ∃ v, x2 * z2 = v := ⟨_, rfl⟩
 obtain ⟨p3, hp3⟩ : ∃ v, p2 * (2 * A) = v := ⟨_, rfl⟩
 obtain ⟨p4, hp4⟩ : ∃ v, p1 - p3 = v := ⟨_, rfl⟩
 obtain ⟨q1, hq1⟩ : ∃ v, x * z = v := ⟨_, rfl⟩
 obtain ⟨q2, hq2⟩ : ∃ v, q1 * z2 = v := ⟨_, rfl⟩
 obtain ⟨q3, hq3⟩ : ∃ v, q2 * (8 * B) = v := ⟨_, rfl⟩
 obtain ⟨q4, hq4⟩ : ∃ v, p4 - q3 = v := ⟨_, rfl⟩
 obtain ⟨r1, hr1⟩ : ∃ v, z2 * z2 = v := ⟨_, rfl⟩
 obtain ⟨r2, hr2⟩ : ∃ v, r1 * (A * A) = v := ⟨_, rfl⟩
 obtain ⟨t, ht0⟩ : ∃ v, topZ A B x z = v := ⟨_, rfl⟩
 have RT := Lib.hid (show q4 + r2 = t by rw [← ht0]; subst hx2 hz2 hp1 hp2 hp3 hp4 hq1 hq2 hq3 hq4 hr1 hr2; rfl)
 have hAA := mul_bd (a := A) (b := A) (A := 1000) (B := 1000) (by omega) (by omega)
 have l2A := ln_small (a := 2 * A) (by omega) (by omega)
 have l8B := ln_small (a := 8 * B) (by omega) (by omega)
 have lAA := ln_small (a := A * A) (by omega) (by omega)
 have m1 : ln x2 ≤ 160 := by rw [← hx2]; exact ln_mul_le lx lx
 have m2 : ln z2 ≤ 160 := by rw [← hz2]; exact ln_mul_le lz lz
 have m3 : ln p1 ≤ 320 := by rw [← hp1]; exact ln_mul_le m1 m1
 have m4 : ln p2 ≤ 320 := by rw [← hp2]; exact ln_mul_le m1 m2
 have m5 : ln p3 ≤ 325 := by rw [← hp3]; exact ln_mul_le m4 l2A
 have m6 : ln p4 ≤ 326 := by rw [← hp4]; exact ln_sub_le (by omega) m5
 have m7 : ln q1 ≤ 160 := by rw [← hq1]; exact ln_mul_le lx lz
 have m8 : ln q2 ≤ 320 := by rw [← hq2]; exact ln_mul_le m7 m2
 have m9 : ln q3 ≤ 325 := by rw [← hq3]; exact ln_mul_le m8 l8B
 have m10 : ln q4 ≤ 327 := by rw [← hq4]; exact ln_sub_le m6 (by omega)
 have m11 : ln r1 ≤ 320 := by rw [← hr1]; exact ln_mul_le m2 m2
 have m12 : ln r2 ≤ 325 := by rw [← hr2]; exact ln_mul_le m11 lAA
 rw [ht0]
 have X2 := Lib.hid hx2; have Z2 := Lib.hid hz2; have P1 := Lib.hid hp1; have P2 := Lib.hid hp2; have P3 := Lib.hid hp3; have P4 := Lib.hid hp4
 have Q1 := Lib.hid hq1; have Q2 := Lib.hid hq2; have Q3 := Lib.hid hq3; have Q4 := Lib.hid hq4; have R1 := Lib.hid hr1; have R2 := Lib.hid hr2
 clear hx2 hz2 hp1 hp2 hp3 hp4 hq1 hq2 hq3 hq4 hr1 hr2 ht0 l2A l8B lAA
 go_enter Tryz.func113, Tryz.ntmps113
 go_wp2_with fail
 refine chk (fun W => Below w.heap.size w W ∧ W.heap[w.heap.size]? = some (.cells #[.int .i64 A, .int .i64 B] 32 (0, 0)) ∧ W.heap[w.heap.size + 1]? = some (.cells #[.bool b, .slice a n c, .bool b2, .slice a2 n2 c2] 107 (0, 0)) ∧ W.heap[w.heap.size + 1 + 1]? = some (.cells #[.bool false, .slice none 0 0] 80 (0, 0)) ∧ Wx W b a n c x ∧ Wx W b2 a2 n2 c2 z) (by refine ⟨?_, ?_, ?_, ?_, ?_, ?_⟩ <;> (exact ck)) ?_
 try clear hx
 try clear hz
 rintro w1 ⟨hB1, ql, qm, qn, hx', hz'⟩
 obtain ⟨zw, zx, vd, fd⟩ := bk2 ql
 replace ql := Lib.hid ql
 obtain ⟨zy, ja, jb, jc, vf, fe⟩ := bk4 qm
 replace qm := Lib.hid qm
 obtain ⟨jd, je, vg, ff⟩ := bk2 qn
 replace qn := Lib.hid qn
 have hx := hx'
 clear hx'
 have hz := hz'
 clear hz'
 go_region
 go_wp2_with fail
 replace ql := ql.out
 replace qm := qm.out
 replace qn := qn.out
 refine chk (fun W => Below w.heap.size w W ∧ W.heap[w.heap.size]? = some (.cells #[.int .i64 A, .int .i64 B] 32 (0, 0)) ∧ W.heap[w.heap.size + 1 + 1]? = some (.cells #[.bool false, .slice none 0 0] 80 (0, 0)) ∧ W.heap[w1.heap.size]? = some (.cells #[.bool b, .slice a n c] 80 (0, 0)) ∧ W.heap[w1.heap.size + 1]? = some (.cells #[.bool b2, .slice a2 n2 c2] 80 (0, 0)) ∧ Wx W b a n c x ∧ Wx W b2 a2 n2 c2 z) (by refine ⟨?_, ?_, ?_, ?_, ?_, ?_, ?_⟩ <;> (exact ck)) ?_
 try clear hx
 try clear hz
 clear zw zx vd ql
 clear zy ja jb jc vf qm
 clear jd je vg qn
 clear hB1
 rintro w3 ⟨hB3, qh, qi, qj, qk, hx', hz'⟩
 obtain ⟨jf, jg, vh, yc⟩ := bk2 qh
 replace qh := Lib.hid qh
 obtain ⟨jh, ji, vi, yd⟩ := bk2 qi
 replace qi := Lib.hid qi
 obtain ⟨zh, zi, vj, ye⟩ := bk2 qj
 replace qj := Lib.hid qj
 obtain ⟨zj, zk, vk, yf⟩ := bk2 qk
 replace qk := Lib.hid qk
 have hx := hx'
 clear hx'
 have hz := hz'
 clear hz'
 generalize w1.heap.size + 1 = gz at *
 generalize w1.heap.size = gx at *
 clear w1
 rotate_left
 go_wp2_with fail
 replace ql := ql.out
 replace qm := qm.out
 replace qn := qn.out
 refine chk (fun W => Below w.heap.size w W ∧ W.heap[w.heap.size]? = some (.cells #[.int .i64 A, .int .i64 B] 32 (0, 0)) ∧ W.heap[w.heap.size + 1 + 1]? = some (.cells #[.bool false, .slice none 0 0] 80 (0, 0)) ∧ W.heap[w1.heap.size + 1]? = some (.cells #[.bool b, .slice a n c] 80 (0, 0)) ∧ W.heap[w1.heap.size]? = some (.cells #[.bool b2, .slice a2 n2 c2] 80 (0, 0)) ∧ Wx W b a n c x ∧ Wx W b2 a2 n2 c2 z) (by refine ⟨?_, ?_, ?_, ?_, ?_, ?_, ?_⟩ <;> (exact ck)) ?_
 try clear hx
 try clear hz
 clear zw zx vd ql
 clear zy ja jb jc vf qm
 clear jd je vg qn
 clear hB1
 rintro w3 ⟨hB3, qh, qi, qj, qk, hx', hz'⟩
 obtain ⟨jf, jg, vh, yc⟩ := bk2 qh
 replace qh := Lib.hid qh
 obtain ⟨jh, ji, vi, yd⟩ := bk2 qi
 replace qi := Lib.hid qi
 obtain ⟨zh, zi, vj, ye⟩ := bk2 qj
 replace qj := Lib.hid qj
 obtain ⟨zj, zk, vk, yf⟩ := bk2 qk
 replace qk := Lib.hid qk
 have hx := hx'
 clear hx'
 have hz := hz'
 clear hz'
 generalize w1.heap.size + 1 = gx at *
 generalize w1.heap.size = gz at *
 clear w1
 all_goals
  refine wp_open (n := 6) (by kernel_rfl) (by kernel_rfl) (by kernel_rfl) (by kernel_rfl) ?_
  simp only [List.take_succ_cons, List.take_zero]
  apply wpS_quiet
  ·intro γ W hW hp
   have hs := hW.size
   (try simp only [sA, sB, sC, sD] at hs)
   have qe := fun x => (xcA hW (gx) 0 (by first | omega | go_size) x).trans zh
   have qf := fun x => (xcA hW (gx) 1 (by first | omega | go_size) x).trans zi
   clear hW hp
   refine ⟨rfl, ?_⟩
   go_big_quiet_op
   first | exact rfl
  ·exact locS_const _
  try simp only [Act.put, List.setIfInBounds_toArray, List.set_cons_succ, List.set_cons_zero, Nat.reduceAdd]
  apply wpS_open (openW w.heap.size x2)
  ·intro γ W hW hp
   refine ⟨rfl, ?_⟩
   go_simp
   refine plainNew rfl ?_
   exact open_W (xdSquare_eq (hx.below hW) X2.out (by omega)) (by (have := hW.size; (try simp only [sA, sB, sC, sD] at this); omega))
  try simp only [Act.put, List.setIfInBounds_toArray, List.set_cons_succ, List.set_cons_zero, Nat.reduceAdd]
  apply wpS_quiet
  ·intro γ W hW hp
   have hs := hW.size
   (try simp only [sA, sB, sC, sD] at hs)
   have qe := fun x => (xcA hW (gz) 0 (by first | omega | go_size) x).trans zj
   have qf := fun x => (xcA hW (gz) 1 (by first | omega | go_size) x).trans zk
   clear hW hp
   refine ⟨rfl, ?_⟩
   go_big_quiet_op
   first | exact rfl
  ·exact locS_const _
  try simp only [Act.put, List.setIfInBounds_toArray, List.set_cons_succ, List.set_cons_zero, Nat.reduceAdd]
  apply wpS_open (openW w.heap.size z2)
  ·intro γ W hW hp
   refine ⟨rfl, ?_⟩
   go_simp
   refine plainNew rfl ?_
   exact open_W (xdSquare_eq (hz.below hW) Z2.out (by omega)) (by (have := hW.size; (try simp only [sA, sB, sC, sD] at this); omega))
  try simp only [Act.put, List.setIfInBounds_toArray, List.set_cons_succ, List.set_cons_zero, Nat.reduceAdd]
  apply wpS_open (newBox _ _ _)
  ·intro γ W hW hp
   refine ⟨rfl, ?_⟩
   go_simp
   exact ⟨⟨⟨_, rfl, hW.size, heap_alloc_new _ _⟩, fun _ => ⟨_, rfl, Nat.le_refl _, by simp⟩⟩, (Below.refl _ _).alloc (Nat.le_refl _) _⟩
  try simp only [Act.put, List.setIfInBounds_toArray, List.set_cons_succ, List.set_cons_zero, Nat.reduceAdd]
  apply wpS_open (newBox _ _ _)
  ·intro γ W hW hp
   refine ⟨rfl, ?_⟩
   go_simp
   exact ⟨⟨⟨_, rfl, hW.size, heap_alloc_new _ _⟩, fun _ => ⟨_, rfl, Nat.le_refl _, by simp⟩⟩, (Below.refl _ _).alloc (Nat.le_refl _) _⟩
  try simp only [Act.put, List.setIfInBounds_toArray, List.set_cons_succ, List.set_cons_zero, Nat.reduceAdd]
  apply wpS_end
  intro γ w4 hb4 hG4 hA4
  have vm := hG4 _ (mL _ (mL _ (mL _ (mR _))))
  dsimp only at vm
  have vn := hG4 _ (mL _ (mL _ (mR _)))
  dsimp only at vn
  obtain ⟨qg, yg, zm, zt⟩ := hG4 _ (mL _ (mR _))
  dsimp only at yg zm zt
  obtain ⟨qc, yh, zn, zu⟩ := hG4 _ (mR _)
  dsimp only at yh zn zu
  have kp := fun o => blk_cell zt o
  have kr := fun o => blk_frozen zt o
  have fh := blk_lt' zt
  have ks := fun o => blk_cell zu o
  have kt := fun o => blk_frozen zu o
  have fi := blk_lt' zu
  have dt : qg ≠ qc := fun ee => hA4 _ (mL _ (mR _)) _ (mR _) rfl rfl (show (4 : Nat) ≠ 5 by decide) (by dsimp only; rw [yg, yh, ee])
  have vw : w.heap.size ≠ qg := Nat.ne_of_lt (Nat.lt_of_lt_of_le yc zm)
  have vy : w.heap.size + 1 + 1 ≠ qg := Nat.ne_of_lt (Nat.lt_of_lt_of_le yd zm)
  have wc : gx ≠ qg := Nat.ne_of_lt (Nat.lt_of_lt_of_le ye zm)
  have wd : gz ≠ qg := Nat.ne_of_lt (Nat.lt_of_lt_of_le yf zm)
  have fj : w.heap.size ≤ qg := Nat.le_trans hB3.size zm
  have wg : w.heap.size ≠ qc := Nat.ne_of_lt (Nat.lt_of_lt_of_le yc zn)
  have wi : w.heap.size + 1 + 1 ≠ qc := Nat.ne_of_lt (Nat.lt_of_lt_of_le yd zn)
  have wj : gx ≠ qc := Nat.ne_of_lt (Nat.lt_of_lt_of_le ye zn)
  have wk : gz ≠ qc := Nat.ne_of_lt (Nat.lt_of_lt_of_le yf zn)
  have fk : w.heap.size ≤ qc := Nat.le_trans hB3.size zn
  clear hG4 hA4
  try simp only [yg, yh]
  clear yg
  clear yh
  simp only [List.drop_succ_cons, List.drop_zero]
  have hz4 := hb4.size
  (try simp only [sA, sB, sC, sD] at hz4)
  obtain ⟨b3, a3, n3, c3, e3, hs, -⟩ := vm
  obtain ⟨b4, a4, n4, c4, e4, ht, -⟩ := vn
  simp only [e3, e4]
  clear e3 e4
  have qq := (hb4.block (w.heap.size) (blk_lt' qh.out)).trans qh.out
  clear jf jg vh qh
  obtain ⟨wl, wm, ku, fl⟩ := bk2 qq
  replace qq := Lib.hid qq
  have qr := (hb4.block (w.heap.size + 1 + 1) (blk_lt' qi.out)).trans qi.out
  clear jh ji vi qi
  obtain ⟨wn, wq, kw, fm⟩ := bk2 qr
  replace qr := Lib.hid qr
  have qt := (hb4.block (gx) (blk_lt' qj.out)).trans qj.out
  clear zh zi vj qj
  obtain ⟨ws, wt, kx, fn⟩ := bk2 qt
  replace qt := Lib.hid qt
  have qu := (hb4.block (gz) (blk_lt' qk.out)).trans qk.out
  clear zj zk vk qk
  obtain ⟨wu, wv, ky, fo⟩ := bk2 qu
  replace qu := Lib.hid qu
  replace hx := hx.below hb4
  replace hz := hz.below hb4
  have hB4 : Below w.heap.size w w4 := below_via hb4 (by assumption) (by go_size)
  go_wp2_with fail
  replace qq := qq.out
  replace qr := qr.out
  replace qt := qt.out
  replace qu := qu.out
  refine chk (fun W => Below w.heap.size w W ∧ W.heap[w.heap.size]? = some (.cells #[.int .i64 A, .int .i64 B] 32 (0, 0)) ∧ W.heap[w.heap.size + 1 + 1]? = some (.cells #[.bool false, .slice none 0 0] 80 (0, 0)) ∧ W.heap[gx]? = some (.cells #[.bool b, .slice a n c] 80 (0, 0)) ∧ W.heap[gz]? = some (.cells #[.bool b2, .slice a2 n2 c2] 80 (0, 0)) ∧ W.heap[qg]? = some (.cells #[.bool b3, .slice a3 n3 c3] 80 (0, 0)) ∧ W.heap[qc]? = some (.cells #[.bool b4, .slice a4 n4 c4] 80 (0, 0)) ∧ Wx W b a n c x ∧ Wx W b2 a2 n2 c2 z ∧ Wx W b3 a3 n3 c3 x2 ∧ Wx W b4 a4 n4 c4 z2) (by refine ⟨?_, ?_, ?_, ?_, ?_, ?_, ?_, ?_, ?_, ?_, ?_⟩ <;> (exact ck)) ?_
  try clear hx
  try clear hz
  try clear hs
  try clear ht
  clear wl wm ku qq
  clear wn wq kw qr
  clear ws wt kx qt
  clear wu wv ky qu
  clear hB4
  try clear kp
  try clear kr
  try clear zt
  try clear ks
  try clear kt
  try clear zu
  rintro w5 ⟨hB5, qv, qw, qx, qy, qz, xc, hx', hz', hs', ht'⟩
  obtain ⟨jj, jk, kz, pc⟩ := bk2 qv
  replace qv := Lib.hid qv
  obtain ⟨ww, wy, pd, pe⟩ := bk2 qw
  replace qw := Lib.hid qw
  obtain ⟨wz, uc, pf, pg⟩ := bk2 qx
  replace qx := Lib.hid qx
  obtain ⟨ud, ue, ph, pi⟩ := bk2 qy
  replace qy := Lib.hid qy
  obtain ⟨zo, zp, pj, pk⟩ := bk2 qz
  replace qz := Lib.hid qz
  obtain ⟨jl, jm, pm, pn⟩ := bk2 xc
  replace xc := Lib.hid xc
  have hx := hx'
  clear hx'
  have hz := hz'
  clear hz'
  have hs := hs'
  clear hs'
  have ht := ht'
  clear ht'
  refine wp_open (n := 11) (by kernel_rfl) (by kernel_rfl) (by kernel_rfl) (by kernel_rfl) ?_
  simp only [List.take_succ_cons, List.take_zero]
  apply wpS_quiet
  ·intro γ W hW hp
   have hs := hW.size
   (try simp only [sA, sB, sC, sD] at hs)
   have qe := fun x => (xcA hW (qg) 0 (by first | omega | go_size) x).trans zo
   have qf := fun x => (xcA hW (qg) 1 (by first | omega | go_size) x).trans zp
   clear hW hp
   refine ⟨rfl, ?_⟩
   go_big_quiet_op
   first | exact rfl
  ·exact locS_const _
  try simp only [Act.put, List.setIfInBounds_toArray, List.set_cons_succ, List.set_cons_zero, Nat.reduceAdd]
  apply wpS_open (openW w.heap.size p1)
  ·intro γ W hW hp
   refine ⟨rfl, ?_⟩
   go_simp
   refine plainNew rfl ?_
   exact open_W (xdSquare_eq (hs.below hW) P1.out (by omega)) (by (have := hW.size; (try simp only [sA, sB, sC, sD] at this); omega))
  try simp only [Act.put, List.setIfInBounds_toArray, List.set_cons_succ, List.set_cons_zero, Nat.reduceAdd]
  apply wpS_quiet
  ·intro γ W hW hp
   have hs := hW.size
   (try simp only [sA, sB, sC, sD] at hs)
   have qe := fun x => (xcA hW (qg) 0 (by first | omega | go_size) x).trans zo
   have qf := fun x => (xcA hW (qg) 1 (by first | omega | go_size) x).trans zp
   clear hW hp
   refine ⟨rfl, ?_⟩
   go_big_quiet_op
   first | exact rfl
  ·exact locS_const _
  try simp only [Act.put, List.setIfInBounds_toArray, List.set_cons_succ, List.set_cons_zero, Nat.reduceAdd]
  apply wpS_quiet
  ·intro γ W hW hp
   have hs := hW.size
   (try simp only [sA, sB, sC, sD] at hs)
   have qe := fun x => (xcA hW (qc) 0 (by first | omega | go_size) x).trans jl
   have qf := fun x => (xcA hW (qc) 1 (by first | omega | go_size) x).trans jm
   clear hW hp
   refine ⟨rfl, ?_⟩
   go_big_quiet_op
   first | exact rfl
  ·exact locS_const _
  try simp only [Act.put, List.setIfInBounds_toArray, List.set_cons_succ, List.set_cons_zero, Nat.reduceAdd]
  apply wpS_open (openW w.heap.size p2)
  ·intro γ W hW hp
   refine ⟨rfl, ?_⟩
   go_simp
   refine plainNew rfl ?_
   exact open_W (bgMul_eq (hs.below hW) (ht.below hW) P2.out (by omega) (by omega)) (by (have := hW.size; (try simp only [sA, sB, sC, sD] at this); omega))
  try simp only [Act.put, List.setIfInBounds_toArray, List.set_cons_succ, List.set_cons_zero, Nat.reduceAdd]
  apply wpS_quiet
  ·intro γ W hW hp
   refine ⟨rfl, ?_⟩
   go_big_quiet_op
   first | exact rfl
  ·exact locS_const _
  try simp only [Act.put, List.setIfInBounds_toArray, List.set_cons_succ, List.set_cons_zero, Nat.reduceAdd]
  apply wpS_quiet
  ·intro γ W hW hp
   have hs := hW.size
   (try simp only [sA, sB, sC, sD] at hs)
   have qe := fun x => (xcA hW (w.heap.size) 0 (by first | omega | go_size) x).trans jj
   have qf := fun x => (xcA hW (w.heap.size) 1 (by first | omega | go_size) x).trans jk
   clear hW hp
   refine ⟨rfl, ?_⟩
   go_big_quiet_op
   first | exact rfl
  ·exact locS_const _
  try simp only [Act.put, List.setIfInBounds_toArray, List.set_cons_succ, List.set_cons_zero, Nat.reduceAdd]
  apply wpS_quiet
  ·intro γ W hW hp
   refine ⟨rfl, ?_⟩
   go_big_quiet_op
   first | exact rfl
  ·exact locS_const _
  try simp only [Act.put, List.setIfInBounds_toArray, List.set_cons_succ, List.set_cons_zero, Nat.reduceAdd]
  apply wpS_open (openW w.heap.size p3)
  ·intro γ W hW hp
   have kc := hp _ (mR _) (by kernel_rfl)
   dsimp only at kc
   refine ⟨rfl, ?_⟩
   go_simp
   refine plainNew rfl ?_
   obtain ⟨b3, a3, n3, c3, e3, h3, _⟩ := kc
   rw [e3]
   exact open_W (bgTimes_eq h3 P3.out (by omega) (by omega)) (by (have := hW.size; (try simp only [sA, sB, sC, sD] at this); omega))
  try simp only [Act.put, List.setIfInBounds_toArray, List.set_cons_succ, List.set_cons_zero, Nat.reduceAdd]
  apply wpS_open (openW w.heap.size p4)
  ·intro γ W hW hp
   have kd := hp _ (mL _ (mL _ (mR _))) (by kernel_rfl)
   dsimp only at kd
   have zv := hp _ (mR _) (by kernel_rfl)
   dsimp only at zv
   refine ⟨rfl, ?_⟩
   go_simp
   refine plainNew rfl ?_
   obtain ⟨b3, a3, n3, c3, e3, h3, _⟩ := kd
   obtain ⟨b4, a4, n4, c4, e4, h4, _⟩ := zv
   rw [e3, e4]
   exact open_W (bgSub_eq h3 h4 P4.out (by omega) (by omega)) (by (have := hW.size; (try simp only [sA, sB, sC, sD] at this); omega))
  try simp only [Act.put, List.setIfInBounds_toArray, List.set_cons_succ, List.set_cons_zero, Nat.reduceAdd]
  apply wpS_open (newBox _ _ _)
  ·intro γ W hW hp
   refine ⟨rfl, ?_⟩
   go_simp
   exact ⟨⟨⟨_, rfl, hW.size, heap_alloc_new _ _⟩, fun _ => ⟨_, rfl, Nat.le_refl _, by simp⟩⟩, (Below.refl _ _).alloc (Nat.le_refl _) _⟩
  try simp only [Act.put, List.setIfInBounds_toArray, List.set_cons_succ, List.set_cons_zero, Nat.reduceAdd]
  apply wpS_end
  intro γ w6 hb6 hG6 hA6
  have vo := hG6 _ (mL _ (mL _ (mL _ (mL _ (mR _)))))
  dsimp only at vo
  have vp := hG6 _ (mL _ (mL _ (mL _ (mR _))))
  dsimp only at vp
  have vq := hG6 _ (mL _ (mL _ (mR _)))
  dsimp only at vq
  have vr := hG6 _ (mL _ (mR _))
  dsimp only at vr
  obtain ⟨qd, yi, qo, zc⟩ := hG6 _ (mR _)
  dsimp only at yi qo zc
  have ke := fun o => blk_cell zc o
  have kf := fun o => blk_frozen zc o
  have du := blk_lt' zc
  have yn : w.heap.size ≠ qd := Nat.ne_of_lt (Nat.lt_of_lt_of_le pc qo)
  have yo : w.heap.size + 1 + 1 ≠ qd := Nat.ne_of_lt (Nat.lt_of_lt_of_le pe qo)
  have yp : gx ≠ qd := Nat.ne_of_lt (Nat.lt_of_lt_of_le pg qo)
  have yq : gz ≠ qd := Nat.ne_of_lt (Nat.lt_of_lt_of_le pi qo)
  have yr : qg ≠ qd := Nat.ne_of_lt (Nat.lt_of_lt_of_le pk qo)
  have yt : qc ≠ qd := Nat.ne_of_lt (Nat.lt_of_lt_of_le pn qo)
  have dv : w.heap.size ≤ qd := Nat.le_trans hB5.size qo
  clear hG6 hA6
  try simp only [yi]
  clear yi
  simp only [List.drop_succ_cons, List.drop_zero]
  have hz6 := hb6.size
  (try simp only [sA, sB, sC, sD] at hz6)
  obtain ⟨b5, a5, n5, c5, e5, hu, -⟩ := vr
  simp only [e5]
  clear e5 vo vp vq
  have xd := (hb6.block (w.heap.size) (blk_lt' qv.out)).trans qv.out
  clear jj jk kz qv
  obtain ⟨uf, ug, po, fp⟩ := bk2 xd
  replace xd := Lib.hid xd
  have xe := (hb6.block (w.heap.size + 1 + 1) (blk_lt' qw.out)).trans qw.out
  clear ww wy pd qw
  obtain ⟨uh, ui, pp, fq⟩ := bk2 xe
  replace xe := Lib.hid xe
  have xf := (hb6.block (gx) (blk_lt' qx.out)).trans qx.out
  clear wz uc pf qx
  obtain ⟨uj, uk, pq, ft⟩ := bk2 xf
  replace xf := Lib.hid xf
  have xg := (hb6.block (gz) (blk_lt' qy.out)).trans qy.out
  clear ud ue ph qy
  obtain ⟨ul, um, pr, fu⟩ := bk2 xg
  replace xg := Lib.hid xg
  have xh := (hb6.block (qg) (blk_lt' qz.out)).trans qz.out
  clear zo zp pj qz
  obtain ⟨un, uo, pt, fv⟩ := bk2 xh
  replace xh := Lib.hid xh
  have xi := (hb6.block (qc) (blk_lt' xc.out)).trans xc.out
  clear jl jm pm xc
  obtain ⟨uq, ur, pu, fw⟩ := bk2 xi
  replace xi := Lib.hid xi
  replace hx := hx.below hb6
  replace hz := hz.below hb6
  replace hs := hs.below hb6
  replace ht := ht.below hb6
  have hB6 : Below w.heap.size w w6 := below_via hb6 (by assumption) (by go_size)
  go_wp2_with fail
  replace xd := xd.out
  replace xe := xe.out
  replace xf := xf.out
  replace xg := xg.out
  replace xh := xh.out
  replace xi := xi.out
  refine chk (fun W => Below w.heap.size w W ∧ W.heap[w.heap.size]? = some (.cells #[.int .i64 A, .int .i64 B] 32 (0, 0)) ∧ W.heap[w.heap.size + 1 + 1]? = some (.cells #[.bool false, .slice none 0 0] 80 (0, 0)) ∧ W.heap[gx]? = some (.cells #[.bool b, .slice a n c] 80 (0, 0)) ∧ W.heap[gz]? = some (.cells #[.bool b2, .slice a2 n2 c2] 80 (0, 0)) ∧ W.heap[qc]? = some (.cells #[.bool b4, .slice a4 n4 c4] 80 (0, 0)) ∧ W.heap[qd]? = some (.cells #[.bool b5, .slice a5 n5 c5] 80 (0, 0)) ∧ Wx W b a n c x ∧ Wx W b2 a2 n2 c2 z ∧ Wx W b4 a4 n4 c4 z2 ∧ Wx W b5 a5 n5 c5 p4) (by refine ⟨?_, ?_, ?_, ?_, ?_, ?_, ?_, ?_, ?_, ?_, ?_⟩ <;> (exact ck)) ?_
  try clear hx
  try clear hz
  try clear ht
  try clear hu
  clear uf ug po xd
  clear uh ui pp xe
  clear uj uk pq xf
  clear ul um pr xg
  clear un uo pt xh
  clear uq ur pu xi
  clear hB6
  try clear ke
  try clear kf
  try clear zc
  rintro w7 ⟨hB7, xj, xk, xl, xm, xn, xo, hx', hz', ht', hu'⟩
  obtain ⟨jn, jo, pv, ba⟩ := bk2 xj
  replace xj := Lib.hid xj
  obtain ⟨us, ut, pw, bc⟩ := bk2 xk
  replace xk := Lib.hid xk
  obtain ⟨jp, jq, px, bd⟩ := bk2 xl
  replace xl := Lib.hid xl
  obtain ⟨jr, jt, dc, bf⟩ := bk2 xm
  replace xm := Lib.hid xm
  obtain ⟨ju, jv, de, bg⟩ := bk2 xn
  replace xn := Lib.hid xn
  obtain ⟨jw, jx, df, bh⟩ := bk2 xo
  replace xo := Lib.hid xo
  have hx := hx'
  clear hx'
  have hz := hz'
  clear hz'
  have ht := ht'
  clear ht'
  have hu := hu'
  clear hu'
  refine wp_open (n := 11) (by kernel_rfl) (by kernel_rfl) (by kernel_rfl) (by kernel_rfl) ?_
  simp only [List.take_succ_cons, List.take_zero]
  apply wpS_quiet
  ·intro γ W hW hp
   have hs := hW.size
   (try simp only [sA, sB, sC, sD] at hs)
   have qe := fun x => (xcA hW (qd) 0 (by first | omega | go_size) x).trans jw
   have qf := fun x => (xcA hW (qd) 1 (by first | omega | go_size) x).trans jx
   clear hW hp
   refine ⟨rfl, ?_⟩
   go_big_quiet_op
   first | exact rfl
  ·exact locS_const _
  try simp only [Act.put, List.setIfInBounds_toArray, List.set_cons_succ, List.set_cons_zero, Nat.reduceAdd]
  apply wpS_quiet
  ·intro γ W hW hp
   have hs := hW.size
   (try simp only [sA, sB, sC, sD] at hs)
   have qe := fun x => (xcA hW (gx) 0 (by first | omega | go_size) x).trans jp
   have qf := fun x => (xcA hW (gx) 1 (by first | omega | go_size) x).trans jq
   clear hW hp
   refine ⟨rfl, ?_⟩
   go_big_quiet_op
   first | exact rfl
  ·exact locS_const _
  try simp only [Act.put, List.setIfInBounds_toArray, List.set_cons_succ, List.set_cons_zero, Nat.reduceAdd]
  apply wpS_quiet
  ·intro γ W hW hp
   have hs := hW.size
   (try simp only [sA, sB, sC, sD] at hs)
   have qe := fun x => (xcA hW (gz) 0 (by first | omega | go_size) x).trans jr
   have qf := fun x => (xcA hW (gz) 1 (by first | omega | go_size) x).trans jt
   clear hW hp
   refine ⟨rfl, ?_⟩
   go_big_quiet_op
   first | exact rfl
  ·exact locS_const _
  try simp only [Act.put, List.setIfInBounds_toArray, List.set_cons_succ, List.set_cons_zero, Nat.reduceAdd]
  apply wpS_open (openW w.heap.size q1)
  ·intro γ W hW hp
   refine ⟨rfl, ?_⟩
   go_simp
   refine plainNew rfl ?_
   exact open_W (bgMul_eq (hx.below hW) (hz.below hW) Q1.out (by omega) (by omega)) (by (have := hW.size; (try simp only [sA, sB, sC, sD] at this); omega))
  try simp only [Act.put, List.setIfInBounds_toArray, List.set_cons_succ, List.set_cons_zero, Nat.reduceAdd]
  apply wpS_quiet
  ·intro γ W hW hp
   have hs := hW.size
   (try simp only [sA, sB, sC, sD] at hs)
   have qe := fun x => (xcA hW (qc) 0 (by first | omega | go_size) x).trans ju
   have qf := fun x => (xcA hW (qc) 1 (by first | omega | go_size) x).trans jv
   clear hW hp
   refine ⟨rfl, ?_⟩
   go_big_quiet_op
   first | exact rfl
  ·exact locS_const _
  try simp only [Act.put, List.setIfInBounds_toArray, List.set_cons_succ, List.set_cons_zero, Nat.reduceAdd]
  apply wpS_open (openW w.heap.size q2)
  ·intro γ W hW hp
   have kh := hp _ (mR _) (by kernel_rfl)
   dsimp only at kh
   refine ⟨rfl, ?_⟩
   go_simp
   refine plainNew rfl ?_
   obtain ⟨b3, a3, n3, c3, e3, h3, _⟩ := kh
   rw [e3]
   exact open_W (bgMul_eq h3 (ht.below hW) Q2.out (by omega) (by omega)) (by (have := hW.size; (try simp only [sA, sB, sC, sD] at this); omega))
  try simp only [Act.put, List.setIfInBounds_toArray, List.set_cons_succ, List.set_cons_zero, Nat.reduceAdd]
  apply wpS_quiet
  ·intro γ W hW hp
   refine ⟨rfl, ?_⟩
   go_big_quiet_op
   first | exact rfl
  ·exact locS_const _
  try simp only [Act.put, List.setIfInBounds_toArray, List.set_cons_succ, List.set_cons_zero, Nat.reduceAdd]
  apply wpS_quiet
  ·intro γ W hW hp
   have hs := hW.size
   (try simp only [sA, sB, sC, sD] at hs)
   have qe := fun x => (xcA hW (w.heap.size) 0 (by first | omega | go_size) x).trans jn
   have qf := fun x => (xcA hW (w.heap.size) 1 (by first | omega | go_size) x).trans jo
   clear hW hp
   refine ⟨rfl, ?_⟩
   go_big_quiet_op
   first | exact rfl
  ·exact locS_const _
  try simp only [Act.put, List.setIfInBounds_toArray, List.set_cons_succ, List.set_cons_zero, Nat.reduceAdd]
  apply wpS_quiet
  ·intro γ W hW hp
   refine ⟨rfl, ?_⟩
   go_big_quiet_op
   first | exact rfl
  ·exact locS_const _
  try simp only [Act.put, List.setIfInBounds_toArray, List.set_cons_succ, List.set_cons_zero, Nat.reduceAdd]
  apply wpS_open (openW w.heap.size q3)
  ·intro γ W hW hp
   have ki := hp _ (mR _) (by kernel_rfl)
   dsimp only at ki
   refine ⟨rfl, ?_⟩
   go_simp
   refine plainNew rfl ?_
   obtain ⟨b3, a3, n3, c3, e3, h3, _⟩ := ki
   rw [e3]
   exact open_W (bgTimes_eq h3 Q3.out (by omega) (by omega)) (by (have := hW.size; (try simp only [sA, sB, sC, sD] at this); omega))
  try simp only [Act.put, List.setIfInBounds_toArray, List.set_cons_succ, List.set_cons_zero, Nat.reduceAdd]
  apply wpS_open (openW w.heap.size q4)
  ·intro γ W hW hp
   have kj := hp _ (mR _) (by kernel_rfl)
   dsimp only at kj
   refine ⟨rfl, ?_⟩
   go_simp
   refine plainNew rfl ?_
   obtain ⟨b3, a3, n3, c3, e3, h3, _⟩ := kj
   rw [e3]
   exact open_W (bgSub_eq (hu.below hW) h3 Q4.out (by omega) (by omega)) (by (have := hW.size; (try simp only [sA, sB, sC, sD] at this); omega))
  try simp only [Act.put, List.setIfInBounds_toArray, List.set_cons_succ, List.set_cons_zero, Nat.reduceAdd]
  apply wpS_end
  intro γ w8 hb8 hG8 hA8
  have vt := hG8 _ (mL _ (mL _ (mL _ (mR _))))
  dsimp only at vt
  have vu := hG8 _ (mL _ (mL _ (mR _)))
  dsimp only at vu
  have vv := hG8 _ (mL _ (mR _))
  dsimp only at vv
  have yj := hG8 _ (mR _)
  dsimp only at yj
  clear hG8 hA8
  simp only [List.drop_succ_cons, List.drop_zero]
  have hz8 := hb8.size
  (try simp only [sA, sB, sC, sD] at hz8)
  obtain ⟨b6, a6, n6, c6, e6, hv, -⟩ := yj
  simp only [e6]
  clear e6 vt vu vv
  have xp := (hb8.block (w.heap.size) (blk_lt' xj.out)).trans xj.out
  clear jn jo pv xj
  obtain ⟨uw, uy, dg, bi⟩ := bk2 xp
  replace xp := Lib.hid xp
  have xq := (hb8.block (w.heap.size + 1 + 1) (blk_lt' xk.out)).trans xk.out
  clear us ut pw xk
  obtain ⟨gc, ge, dh, bj⟩ := bk2 xq
  replace xq := Lib.hid xq
  have xr := (hb8.block (gx) (blk_lt' xl.out)).trans xl.out
  clear jp jq px xl
  obtain ⟨gh, gk, di, bk⟩ := bk2 xr
  replace xr := Lib.hid xr
  have xt := (hb8.block (gz) (blk_lt' xm.out)).trans xm.out
  clear jr jt dc xm
  obtain ⟨gm, gn, dj, bm⟩ := bk2 xt
  replace xt := Lib.hid xt
  have xu := (hb8.block (qc) (blk_lt' xn.out)).trans xn.out
  clear ju jv de xn
  obtain ⟨gr, gt, dk, bn⟩ := bk2 xu
  replace xu := Lib.hid xu
  have xv := (hb8.block (qd) (blk_lt' xo.out)).trans xo.out
  clear jw jx df xo
  obtain ⟨gu, gy, dl, br⟩ := bk2 xv
  replace xv := Lib.hid xv
  replace hx := hx.below hb8
  replace hz := hz.below hb8
  replace ht := ht.below hb8
  replace hu := hu.below hb8
  have hB8 : Below w.heap.size w w8 := below_via hb8 (by assumption) (by go_size)
  go_wp2_with fail
  replace xp := xp.out
  replace xq := xq.out
  replace xr := xr.out
  replace xt := xt.out
  replace xu := xu.out
  replace xv := xv.out
  refine chk (fun W => Below w.heap.size w W ∧ W.heap[w.heap.size]? = some (.cells #[.int .i64 A, .int .i64 B] 32 (0, 0)) ∧ W.heap[w.heap.size + 1 + 1]? = some (.cells #[.bool false, .slice none 0 0] 80 (0, 0)) ∧ W.heap[qc]? = some (.cells #[.bool b4, .slice a4 n4 c4] 80 (0, 0)) ∧ W.heap[qd]? = some (.cells #[.bool b6, .slice a6 n6 c6] 80 (0, 0)) ∧ Wx W b4 a4 n4 c4 z2 ∧ Wx W b6 a6 n6 c6 q4) (by refine ⟨?_, ?_, ?_, ?_, ?_, ?_, ?_⟩ <;> (exact ck)) ?_
  try clear ht
  try clear hv
  clear uw uy dg xp
  clear gc ge dh xq
  clear gh gk di xr
  clear gm gn dj xt
  clear gr gt dk xu
  clear gu gy dl xv
  clear hB8
  rintro w9 ⟨hB9, xw, xy, za, zb, ht', hv'⟩
  obtain ⟨zq, zr, dm, bu⟩ := bk2 xw
  replace xw := Lib.hid xw
  obtain ⟨ka, kb, dn, bw⟩ := bk2 xy
  replace xy := Lib.hid xy
  obtain ⟨jy, jz, dq, bx⟩ := bk2 za
  replace za := Lib.hid za
  obtain ⟨ya, yb, dr, cd⟩ := bk2 zb
  replace zb := Lib.hid zb
  have ht := ht'
  clear ht'
  have hv := hv'
  clear hv'
  refine wp_open (n := 10) (by kernel_rfl) (by kernel_rfl) (by kernel_rfl) (by kernel_rfl) ?_
  simp only [List.take_succ_cons, List.take_zero]
  apply wpS_quiet
  ·intro γ W hW hp
   have hs := hW.size
   (try simp only [sA, sB, sC, sD] at hs)
   have qe := fun x => (xcA hW (qd) 0 (by first | omega | go_size) x).trans ya
   have qf := fun x => (xcA hW (qd) 1 (by first | omega | go_size) x).trans yb
   clear hW hp
   refine ⟨rfl, ?_⟩
   go_big_quiet_op
   first | exact rfl
  ·exact locS_const _
  try simp only [Act.put, List.setIfInBounds_toArray, List.set_cons_succ, List.set_cons_zero, Nat.reduceAdd]
  apply wpS_quiet
  ·intro γ W hW hp
   have hs := hW.size
   (try simp only [sA, sB, sC, sD] at hs)
   have qe := fun x => (xcA hW (qc) 0 (by first | omega | go_size) x).trans jy
   have qf := fun x => (xcA hW (qc) 1 (by first | omega | go_size) x).trans jz
   clear hW hp
   refine ⟨rfl, ?_⟩
   go_big_quiet_op
   first | exact rfl
  ·exact locS_const _
  try simp only [Act.put, List.setIfInBounds_toArray, List.set_cons_succ, List.set_cons_zero, Nat.reduceAdd]
  apply wpS_open (openW w.heap.size r1)
  ·intro γ W hW hp
   refine ⟨rfl, ?_⟩
   go_simp
   refine plainNew rfl ?_
   exact open_W (xdSquare_eq (ht.below hW) R1.out (by omega)) (by (have := hW.size; (try simp only [sA, sB, sC, sD] at this); omega))
  try simp only [Act.put, List.setIfInBounds_toArray, List.set_cons_succ, List.set_cons_zero, Nat.reduceAdd]
  apply wpS_quiet
  ·intro γ W hW hp
   refine ⟨rfl, ?_⟩
   go_big_quiet_op
   first | exact rfl
  ·exact locS_const _
  try simp only [Act.put, List.setIfInBounds_toArray, List.set_cons_succ, List.set_cons_zero, Nat.reduceAdd]
  apply wpS_quiet
  ·intro γ W hW hp
   have hs := hW.size
   (try simp only [sA, sB, sC, sD] at hs)
   have qe := fun x => (xcA hW (w.heap.size) 0 (by first | omega | go_size) x).trans zq
   have qf := fun x => (xcA hW (w.heap.size) 1 (by first | omega | go_size) x).trans zr
   clear hW hp
   refine ⟨rfl, ?_⟩
   go_big_quiet_op
   first | exact rfl
  ·exact locS_const _
  try simp only [Act.put, List.setIfInBounds_toArray, List.set_cons_succ, List.set_cons_zero, Nat.reduceAdd]
  apply wpS_quiet
  ·intro γ W hW hp
   refine ⟨rfl, ?_⟩
   go_big_quiet_op
   first | exact rfl
  ·exact locS_const _
  try simp only [Act.put, List.setIfInBounds_toArray, List.set_cons_succ, List.set_cons_zero, Nat.reduceAdd]
  apply wpS_quiet
  ·intro γ W hW hp
   have hs := hW.size
   (try simp only [sA, sB, sC, sD] at hs)
   have qe := fun x => (xcA hW (w.heap.size) 0 (by first | omega | go_size) x).trans zq
   have qf := fun x => (xcA hW (w.heap.size) 1 (by first | omega | go_size) x).trans zr
   clear hW hp
   refine ⟨rfl, ?_⟩
   go_big_quiet_op
   first | exact rfl
  ·exact locS_const _
  try simp only [Act.put, List.setIfInBounds_toArray, List.set_cons_succ, List.set_cons_zero, Nat.reduceAdd]
  apply wpS_quiet
  ·intro γ W hW hp
   refine ⟨rfl, ?_⟩
   go_big_quiet_op
   first | exact rfl
  ·exact locS_const _
  try simp only [Act.put, List.setIfInBounds_toArray, List.set_cons_succ, List.set_cons_zero, Nat.reduceAdd]
  apply wpS_open (openW w.heap.size r2)
  ·intro γ W hW hp
   have kl := hp _ (mR _) (by kernel_rfl)
   dsimp only at kl
   refine ⟨rfl, ?_⟩
   go_simp
   refine plainNew rfl ?_
   obtain ⟨b3, a3, n3, c3, e3, h3, _⟩ := kl
   rw [e3]
   exact open_W (bgTimes_eq h3 R2.out (by omega) (by omega)) (by (have := hW.size; (try simp only [sA, sB, sC, sD] at this); omega))
  try simp only [Act.put, List.setIfInBounds_toArray, List.set_cons_succ, List.set_cons_zero, Nat.reduceAdd]
  apply wpS_open (openW w.heap.size t)
  ·intro γ W hW hp
   have zv := hp _ (mR _) (by kernel_rfl)
   dsimp only at zv
   refine ⟨rfl, ?_⟩
   go_simp
   refine plainNew rfl ?_
   obtain ⟨b3, a3, n3, c3, e3, h3, _⟩ := zv
   rw [e3]
   exact open_W (bgAdd_eq (hv.below hW) h3 RT.out (by omega) (by omega)) (by (have := hW.size; (try simp only [sA, sB, sC, sD] at this); omega))
  try simp only [Act.put, List.setIfInBounds_toArray, List.set_cons_succ, List.set_cons_zero, Nat.reduceAdd]
  apply wpS_end
  intro γ w10 hb10 hG10 hA10
  have yk := hG10 _ (mL _ (mL _ (mR _)))
  dsimp only at yk
  have yl := hG10 _ (mL _ (mR _))
  dsimp only at yl
  have ym := hG10 _ (mR _)
  dsimp only at ym
  clear hG10 hA10
  simp only [List.drop_succ_cons, List.drop_zero]
  have hz10 := hb10.size
  (try simp only [sA, sB, sC, sD] at hz10)
  obtain ⟨b7, a7, n7, c7, e7, h7, f7⟩ := ym
  simp only [e7]
  clear e7 yk yl
  have zd := (hb10.block (w.heap.size) (blk_lt' xw.out)).trans xw.out
  clear zq zr dm xw
  obtain ⟨yu, yv, km, dw⟩ := bk2 zd
  replace zd := Lib.hid zd
  have ze := (hb10.block (w.heap.size + 1 + 1) (blk_lt' xy.out)).trans xy.out
  clear ka kb dn xy
  obtain ⟨yw, yx, dx, fa⟩ := bk2 ze
  replace ze := Lib.hid ze
  have zf := (hb10.block (qc) (blk_lt' za.out)).trans za.out
  clear jy jz dq za
  obtain ⟨yz, va, kn, fb⟩ := bk2 zf
  replace zf := Lib.hid zf
  have zg := (hb10.block (qd) (blk_lt' zb.out)).trans zb.out
  clear ya yb dr zb
  obtain ⟨vb, vc, ko, fc⟩ := bk2 zg
  replace zg := Lib.hid zg
  replace ht := ht.below hb10
  replace hv := hv.below hb10
  have hB10 : Below w.heap.size w w10 := below_via hb10 (by assumption) (by go_size)
  clear yu
  clear yv
  clear km zd
  clear yz
  clear va
  clear kn zf
  clear vb
  clear vc
  clear ko zg
  try clear vw
  try clear vy
  try clear wc
  try clear wd
  try clear wg
  try clear wi
  try clear wj
  try clear wk
  try clear yn
  try clear yo
  try clear yp
  try clear yq
  try clear yr
  try clear yt
  clear hA hBB hAA hx hz hs ht hu hv m1 m2 m3 m4 m5 m6 m7 m8 m9 m10 m11 m12
  iterate 24 (first | (with_reducible show bodyPost _ _ _ _ _ _) | (with_reducible refine wp_ret ?_) | go_values | go_skip | go_guarded | go_step | go_upon | go_back | skip)
  refine bodyPost_ret (v := .agg #[.bool b7, .slice a7 n7 c7]) (by simp [results, Tryz.results113, go_sem, yw, yx]) rfl ⟨_, _, _, _, rfl, ?_, f7, ?_⟩
  ·have HO := ze.out
   (exact ck)
  ·(exact ck)
end
section
open Go.RowKit
set_option linter.unusedVariables false
set_option maxHeartbeats 1000000
set_option maxRecDepth 20000
set_option linter.unusedSimpArgs false
attribute [local go_sem] openAt openUpon
theorem xdBottom_any (A B x z : Int) (b b2 : Bool) (a a2 : Option Addr) (n c n2 c2 : Nat) (w : World) (hA : -1000 ≤ A ∧ A ≤ 1000) (hBB : -10000 ≤ B ∧ B ≤ 10000) (hx : Wx w b a n c x) (hz : Wx w b2 a2 n2 c2 z) (lx : ln x ≤ 80) (lz : ln z ≤ 80) :
  Calls Tryz.prog 96 #[.agg #[.int .i64 A, .int .i64 B], .agg #[.bool b, .slice a n c, .bool b2, .slice a2 n2 c2]] w (NewW w (botZ A B x z)) := by
 obtain ⟨x2, hx2⟩ : ∃ v, x * x = v := ⟨_, rfl⟩
 obtain ⟨z2, hz2⟩ : ∃ v, z * z = v := ⟨_, rfl⟩
 obtain ⟨p1, hp1⟩ : ∃ v, x2 * x = v := ⟨_, rfl⟩
 obtain ⟨p2, hp2⟩ : ∃ v, x * z2 = v := ⟨_, rfl⟩
 obtain ⟨p3, hp3⟩ : ∃ v, p2 * A = v := ⟨_, rfl⟩
 obtain ⟨p4, hp4⟩ : ∃ v, p1 + p3 = v := ⟨_, rfl⟩
 obtain ⟨q1, hq1⟩ : ∃ v, z * z2 = v := ⟨_, rfl⟩
 obtain ⟨q2, hq2⟩ : ∃ v, q1 * B = v := ⟨_, rfl⟩
 obtain ⟨q3, hq3⟩ : ∃ v, p4 + q2 = v := ⟨_, rfl⟩
 obtain ⟨r1, hr1⟩ : ∃ v, z * q3 = v := ⟨_, rfl⟩
 obtain ⟨t, ht0⟩ : ∃ v, botZ A B x z = v := ⟨_, rfl⟩
 have RT := Lib.hid (show r1 * 4 = t by rw [← ht0]; subst hx2 hz2 hp1 hp2 hp3 hp4 hq1 hq2 hq3 hr1; rfl)
 have lA := ln_small (a := A) (by omega) (by omega)
 have lB := ln_small (a := B) (by omega) (by omega)
 have m1 : ln x2 ≤ 160 := by rw [← hx2]; exact ln_mul_le lx lx
 have m2 : ln z2 ≤ 160 := by rw [← hz2]; exact ln_mul_le lz lz
 have m3 : ln p1 ≤ 240 := by rw [← hp1]; exact ln_mul_le m1 lx
 have m4 : ln p2 ≤ 240 := by rw [← hp2]; exact ln_mul_le lx m2
 have m5 : ln p3 ≤ 245 := by rw [← hp3]; exact ln_mul_le m4 lA
 have m6 : ln p4 ≤ 246 := by rw [← hp4]; exact ln_add_le (by omega) m5
 have m7 : ln q1 ≤ 240 := by rw [← hq1]; exact ln_mul_le lz m2
 have m8 : ln q2 ≤ 245 := by rw [← hq2]; exact ln_mul_le m7 lB
 have m9 : ln q3 ≤ 247 := by rw [← hq3]; exact ln_add_le m6 (by omega)
 have m10 : ln r1 ≤ 327 := by rw [← hr1]; exact ln_mul_le lz m9
 rw [ht0]
 have X2 := Lib.hid hx2; have Z2 := Lib.hid hz2; have P1 := Lib.hid hp1; have P2 := Lib.hid hp2; have P3 := Lib.hid hp3; have P4 := Lib.hid hp4
 have Q1 := Lib.hid hq1; have Q2 := Lib.hid hq2; have Q3 := Lib.hid hq3; have R1 := Lib.hid hr1
 clear hx2 hz2 hp1 hp2 hp3 hp4 hq1 hq2 hq3 hr1 ht0 lA lB
 have tok1 := trivial
 have tok2 := trivial
 have tok3 := trivial
 have tok4 := trivial
 have tok5 := trivial
 have tok6 := trivial
 have tok7 := trivial
 have tok8 := trivial
 have tok9 := trivial
 have tok10 := trivial
 have tok11 := trivial
 go_enter Tryz.func96, Tryz.ntmps96
 go_wp2_with fail
 refine chk (fun W => Below w.heap.size w W ∧ W.heap[w.heap.size]? = some (.cells #[.int .i64 A, .int .i64 B] 32 (0, 0)) ∧ W.heap[w.heap.size + 1]? = some (.cells #[.bool b, .slice a n c, .bool b2, .slice a2 n2 c2] 107 (0, 0)) ∧ W.heap[w.heap.size + 1 + 1]? = some (.cells #[.bool false, .slice none 0 0] 80 (0, 0)) ∧ Wx W b a n c x ∧ Wx W b2 a2 n2 c2 z) (by refine ⟨?_, ?_, ?_, ?_, ?_, ?_⟩ <;> (exact ck)) ?_
 try clear hx
 try clear hz
 rintro w1 ⟨hB1, qh, qi, qj, hx', hz'⟩
 obtain ⟨zf, zg, vk, ny⟩ := bk2 qh
 replace qh := Lib.hid qh
 obtain ⟨zh, zi, zj, zk, vm, nz⟩ := bk4 qi
 replace qi := Lib.hid qi
 obtain ⟨zm, zn, vn, ma⟩ := bk2 qj
 replace qj := Lib.hid qj
 have hx := hx'
 clear hx'
 have hz := hz'
 clear hz'
 go_region
 go_upto_region 2 with (fail)
 replace qh := qh.out
 replace qi := qi.out
 replace qj := qj.out
 refine chk (fun W => Below w.heap.size w W ∧ W.heap[w.heap.size]? = some (.cells #[.int .i64 A, .int .i64 B] 32 (0, 0)) ∧ W.heap[w.heap.size + 1 + 1]? = some (.cells #[.bool false, .slice none 0 0] 80 (0, 0)) ∧ W.heap[w1.heap.size]? = some (.cells #[.bool b, .slice a n c] 80 (0, 0)) ∧ W.heap[w1.heap.size + 1]? = some (.cells #[.bool b2, .slice a2 n2 c2] 80 (0, 0)) ∧ Wx W b a n c x ∧ Wx W b2 a2 n2 c2 z) (by refine ⟨?_, ?_, ?_, ?_, ?_, ?_, ?_⟩ <;> (exact ck)) ?_
 try clear hx
 try clear hz
 clear zf zg vk qh
 clear zh zi zj zk vm qi
 clear zm zn vn qj
 clear hB1
 rintro w3 ⟨hB3, qd, qe, qf, qg, hx', hz'⟩
 obtain ⟨zo, zp, vo, kz⟩ := bk2 qd
 replace qd := Lib.hid qd
 obtain ⟨zq, zr, vp, pc⟩ := bk2 qe
 replace qe := Lib.hid qe
 obtain ⟨zt, zu, vq, pd⟩ := bk2 qf
 replace qf := Lib.hid qf
 obtain ⟨zv, zw, vr, pe⟩ := bk2 qg
 replace qg := Lib.hid qg
 have hx := hx'
 clear hx'
 have hz := hz'
 clear hz'
 generalize w1.heap.size + 1 = gz at *
 generalize w1.heap.size = gx at *
 clear w1
 rotate_left
 go_upto_region 2 with (fail)
 replace qh := qh.out
 replace qi := qi.out
 replace qj := qj.out
 refine chk (fun W => Below w.heap.size w W ∧ W.heap[w.heap.size]? = some (.cells #[.int .i64 A, .int .i64 B] 32 (0, 0)) ∧ W.heap[w.heap.size + 1 + 1]? = some (.cells #[.bool false, .slice none 0 0] 80 (0, 0)) ∧ W.heap[w1.heap.size + 1]? = some (.cells #[.bool b, .slice a n c] 80 (0, 0)) ∧ W.heap[w1.heap.size]? = some (.cells #[.bool b2, .slice a2 n2 c2] 80 (0, 0)) ∧ Wx W b a n c x ∧ Wx W b2 a2 n2 c2 z) (by refine ⟨?_, ?_, ?_, ?_, ?_, ?_, ?_⟩ <;> (exact ck)) ?_
 try clear hx
 try clear hz
 clear zf zg vk qh
 clear zh zi zj zk vm qi
 clear zm zn vn qj
 clear hB1
 rintro w3 ⟨hB3, qd, qe, qf, qg, hx', hz'⟩
 obtain ⟨zo, zp, vo, kz⟩ := bk2 qd
 replace qd := Lib.hid qd
 obtain ⟨zq, zr, vp, pc⟩ := bk2 qe
 replace qe := Lib.hid qe
 obtain ⟨zt, zu, vq, pd⟩ := bk2 qf
 replace qf := Lib.hid qf
 obtain ⟨zv, zw, vr, pe⟩ := bk2 qg
 replace qg := Lib.hid qg
 have hx := hx'
 clear hx'
 have hz := hz'
 clear hz'
 generalize w1.heap.size + 1 = gx at *
 generalize w1.heap.size = gz at *
 clear w1
 all_goals
  go_wp2_with (first | (have _t := tok4; go_at_call 109; (with_reducible refine ((xdSquare_eq (hz.below bel) Z2.out (by omega))).mono ?_); rintro e w4 ⟨b3, a3, n3, c3, rfl, hs, f3, hb4⟩; clear tok4 _t; have hz4 := hb4.size; (try simp only [sA, sB, sC, sD] at hz4); (try (obtain ⟨kq, gr⟩ := cfAt hb4 (w.heap.size); have yb := kq 0; have yc := kq 1; clear kq; simp [go_sem, *] at yb yc gr)); (try have ci : w.heap.size < w4.heap.size := by omega); (try (obtain ⟨kq, gt⟩ := cfAt hb4 (w.heap.size + 1); have yd := kq 0; have ye := kq 1; have yf := kq 2; have yg := kq 3; clear kq; simp [go_sem, *] at yd ye yf yg gt)); (try have cj : w.heap.size + 1 < w4.heap.size := by omega); (try (obtain ⟨kq, gu⟩ := cfAt hb4 (w.heap.size + 1 + 1); have yh := kq 0; have yi := kq 1; clear kq; simp [go_sem, *] at yh yi gu)); (try have cl : w.heap.size + 1 + 1 < w4.heap.size := by omega); (try clear dr dt cn); (try clear co); (try clear du dv dw dx cp); (try clear cq); (try clear fa fb cr); (try clear ct); (try clear fc fd cu); (try clear cw); (try clear fe ff fh fi cx); (try clear cy); (try clear fj fk cz); (try clear nc); (try clear fl fm nd); (try clear nf); (try clear fn fo fp fq ng); (try clear nh); (try clear ft fu ni); (try clear nj)))
  have qn := (hb4.block (w.heap.size) (blk_lt' qd.out)).trans qd.out
  clear zo zp vo qd
  obtain ⟨wg, wi, pf, mb⟩ := bk2 qn
  replace qn := Lib.hid qn
  have qo := (hb4.block (w.heap.size + 1 + 1) (blk_lt' qe.out)).trans qe.out
  clear zq zr vp qe
  obtain ⟨wj, wk, pg, mc⟩ := bk2 qo
  replace qo := Lib.hid qo
  have qq := (hb4.block (gx) (blk_lt' qf.out)).trans qf.out
  clear zt zu vq qf
  obtain ⟨wl, wm, ph, me⟩ := bk2 qq
  replace qq := Lib.hid qq
  have qr := (hb4.block (gz) (blk_lt' qg.out)).trans qg.out
  clear zv zw vr qg
  obtain ⟨wn, wq, pi, mf⟩ := bk2 qr
  replace qr := Lib.hid qr
  replace hx := hx.below hb4
  replace hz := hz.below hb4
  have hB4 : Below w.heap.size w w4 := below_via hb4 (by assumption) (by go_size)
  have hg4 : w3.heap.size ≤ w4.heap.size := hb4.size
  have hg5 : w.heap.size ≤ w4.heap.size := hB4.size
  have nC : w.heap.size ≠ w4.heap.size := by omega
  have nO : w.heap.size + 1 + 1 ≠ w4.heap.size := by omega
  have nX : gx ≠ w4.heap.size := by omega
  have nZ : gz ≠ w4.heap.size := by omega
  replace qn := qn.out
  replace qo := qo.out
  replace qq := qq.out
  replace qr := qr.out
  refine chk (fun W => Below w.heap.size w W ∧ W.heap[w.heap.size]? = some (.cells #[.int .i64 A, .int .i64 B] 32 (0, 0)) ∧ W.heap[w.heap.size + 1 + 1]? = some (.cells #[.bool false, .slice none 0 0] 80 (0, 0)) ∧ W.heap[gx]? = some (.cells #[.bool b, .slice a n c] 80 (0, 0)) ∧ W.heap[gz]? = some (.cells #[.bool b2, .slice a2 n2 c2] 80 (0, 0)) ∧ W.heap[w4.heap.size]? = some (.cells #[.bool b3, .slice a3 n3 c3] 80 (0, 0)) ∧ Wx W b a n c x ∧ Wx W b2 a2 n2 c2 z ∧ Wx W b3 a3 n3 c3 z2) (by refine ⟨?_, ?_, ?_, ?_, ?_, ?_, ?_, ?_, ?_⟩ <;> (exact ck)) ?_
  try clear hx
  try clear hz
  try clear hs
  clear wg wi pf qn
  clear wj wk pg qo
  clear wl wm ph qq
  clear wn wq pi qr
  clear hB4
  rintro w5 ⟨hB5, qt, qu, qv, qw, qx, hx', hz', hs'⟩
  obtain ⟨zx, zy, pj, pk⟩ := bk2 qt
  replace qt := Lib.hid qt
  obtain ⟨ws, wt, pm, pn⟩ := bk2 qu
  replace qu := Lib.hid qu
  obtain ⟨qy, qz, po, pp⟩ := bk2 qv
  replace qv := Lib.hid qv
  obtain ⟨wu, wv, pq, pr⟩ := bk2 qw
  replace qw := Lib.hid qw
  obtain ⟨ja, jb, pt, pu⟩ := bk2 qx
  replace qx := Lib.hid qx
  have hx := hx'
  clear hx'
  have hz := hz'
  clear hz'
  have hs := hs'
  clear hs'
  clear f3
  generalize w4.heap.size = gs at *
  refine wp_open (n := 12) (by kernel_rfl) (by kernel_rfl) (by kernel_rfl) (by kernel_rfl) ?_
  simp only [List.take_succ_cons, List.take_zero]
  apply wpS_quiet
  ·intro γ W hW hp
   have hs := hW.size
   (try simp only [sA, sB, sC, sD] at hs)
   have ql := fun x => (xcA hW (gx) 0 (by first | omega | go_size) x).trans qy
   have qm := fun x => (xcA hW (gx) 1 (by first | omega | go_size) x).trans qz
   clear hW hp
   refine ⟨rfl, ?_⟩
   go_big_quiet_op
   first | exact rfl
  ·exact locS_const _
  try simp only [Act.put, List.setIfInBounds_toArray, List.set_cons_succ, List.set_cons_zero, Nat.reduceAdd]
  apply wpS_open (openW w.heap.size x2)
  ·intro γ W hW hp
   refine ⟨rfl, ?_⟩
   go_simp
   refine plainNew rfl ?_
   exact open_W (xdSquare_eq (hx.below hW) X2.out (by omega)) (by (have := hW.size; (try simp only [sA, sB, sC, sD] at this); omega))
  try simp only [Act.put, List.setIfInBounds_toArray, List.set_cons_succ, List.set_cons_zero, Nat.reduceAdd]
  apply wpS_quiet
  ·intro γ W hW hp
   have hs := hW.size
   (try simp only [sA, sB, sC, sD] at hs)
   have ql := fun x => (xcA hW (gx) 0 (by first | omega | go_size) x).trans qy
   have qm := fun x => (xcA hW (gx) 1 (by first | omega | go_size) x).trans qz
   clear hW hp
   refine ⟨rfl, ?_⟩
   go_big_quiet_op
   first | exact rfl
  ·exact locS_const _
  try simp only [Act.put, List.setIfInBounds_toArray, List.set_cons_succ, List.set_cons_zero, Nat.reduceAdd]
  apply wpS_open (openW w.heap.size p1)
  ·intro γ W hW hp
   have gy := hp _ (mR _) (by kernel_rfl)
   dsimp only at gy
   refine ⟨rfl, ?_⟩
   go_simp
   refine plainNew rfl ?_
   obtain ⟨b4, a4, n4, c4, e4, h4, _⟩ := gy
   rw [e4]
   exact open_W (bgMul_eq h4 (hx.below hW) P1.out (by omega) (by omega)) (by (have := hW.size; (try simp only [sA, sB, sC, sD] at this); omega))
  try simp only [Act.put, List.setIfInBounds_toArray, List.set_cons_succ, List.set_cons_zero, Nat.reduceAdd]
  apply wpS_quiet
  ·intro γ W hW hp
   have hs := hW.size
   (try simp only [sA, sB, sC, sD] at hs)
   have ql := fun x => (xcA hW (gx) 0 (by first | omega | go_size) x).trans qy
   have qm := fun x => (xcA hW (gx) 1 (by first | omega | go_size) x).trans qz
   clear hW hp
   refine ⟨rfl, ?_⟩
   go_big_quiet_op
   first | exact rfl
  ·exact locS_const _
  try simp only [Act.put, List.setIfInBounds_toArray, List.set_cons_succ, List.set_cons_zero, Nat.reduceAdd]
  apply wpS_quiet
  ·intro γ W hW hp
   have hs := hW.size
   (try simp only [sA, sB, sC, sD] at hs)
   have ql := fun x => (xcA hW (gs) 0 (by first | omega | go_size) x).trans ja
   have qm := fun x => (xcA hW (gs) 1 (by first | omega | go_size) x).trans jb
   clear hW hp
   refine ⟨rfl, ?_⟩
   go_big_quiet_op
   first | exact rfl
  ·exact locS_const _
  try simp only [Act.put, List.setIfInBounds_toArray, List.set_cons_succ, List.set_cons_zero, Nat.reduceAdd]
  apply wpS_open (openW w.heap.size p2)
  ·intro γ W hW hp
   refine ⟨rfl, ?_⟩
   go_simp
   refine plainNew rfl ?_
   exact open_W (bgMul_eq (hx.below hW) (hs.below hW) P2.out (by omega) (by omega)) (by (have := hW.size; (try simp only [sA, sB, sC, sD] at this); omega))
  try simp only [Act.put, List.setIfInBounds_toArray, List.set_cons_succ, List.set_cons_zero, Nat.reduceAdd]
  apply wpS_quiet
  ·intro γ W hW hp
   refine ⟨rfl, ?_⟩
   go_big_quiet_op
   first | exact rfl
  ·exact locS_const _
  try simp only [Act.put, List.setIfInBounds_toArray, List.set_cons_succ, List.set_cons_zero, Nat.reduceAdd]
  apply wpS_quiet
  ·intro γ W hW hp
   have hs := hW.size
   (try simp only [sA, sB, sC, sD] at hs)
   have ql := fun x => (xcA hW (w.heap.size) 0 (by first | omega | go_size) x).trans zx
   have qm := fun x => (xcA hW (w.heap.size) 1 (by first | omega | go_size) x).trans zy
   clear hW hp
   refine ⟨rfl, ?_⟩
   go_big_quiet_op
   first | exact rfl
  ·exact locS_const _
  try simp only [Act.put, List.setIfInBounds_toArray, List.set_cons_succ, List.set_cons_zero, Nat.reduceAdd]
  apply wpS_open (openW w.heap.size p3)
  ·intro γ W hW hp
   have zd := hp _ (mR _) (by kernel_rfl)
   dsimp only at zd
   refine ⟨rfl, ?_⟩
   go_simp
   refine plainNew rfl ?_
   obtain ⟨b4, a4, n4, c4, e4, h4, _⟩ := zd
   rw [e4]
   exact open_W (bgTimes_eq h4 P3.out (by omega) (by omega)) (by (have := hW.size; (try simp only [sA, sB, sC, sD] at this); omega))
  try simp only [Act.put, List.setIfInBounds_toArray, List.set_cons_succ, List.set_cons_zero, Nat.reduceAdd]
  apply wpS_open (openW w.heap.size p4)
  ·intro γ W hW hp
   have ze := hp _ (mL _ (mL _ (mR _))) (by kernel_rfl)
   dsimp only at ze
   have ka := hp _ (mR _) (by kernel_rfl)
   dsimp only at ka
   refine ⟨rfl, ?_⟩
   go_simp
   refine plainNew rfl ?_
   obtain ⟨b4, a4, n4, c4, e4, h4, _⟩ := ze
   obtain ⟨b5, a5, n5, c5, e5, h5, _⟩ := ka
   rw [e4, e5]
   exact open_W (bgAdd_eq h4 h5 P4.out (by omega) (by omega)) (by (have := hW.size; (try simp only [sA, sB, sC, sD] at this); omega))
  try simp only [Act.put, List.setIfInBounds_toArray, List.set_cons_succ, List.set_cons_zero, Nat.reduceAdd]
  apply wpS_open (newBox _ _ _)
  ·intro γ W hW hp
   refine ⟨rfl, ?_⟩
   go_simp
   exact ⟨⟨⟨_, rfl, hW.size, heap_alloc_new _ _⟩, fun _ => ⟨_, rfl, Nat.le_refl _, by simp⟩⟩, (Below.refl _ _).alloc (Nat.le_refl _) _⟩
  try simp only [Act.put, List.setIfInBounds_toArray, List.set_cons_succ, List.set_cons_zero, Nat.reduceAdd]
  apply wpS_end
  intro γ w6 hb6 hG6 hA6
  have vt := hG6 _ (mL _ (mL _ (mL _ (mL _ (mL _ (mR _))))))
  dsimp only at vt
  have vu := hG6 _ (mL _ (mL _ (mL _ (mL _ (mR _)))))
  dsimp only at vu
  have vv := hG6 _ (mL _ (mL _ (mL _ (mR _))))
  dsimp only at vv
  have vw := hG6 _ (mL _ (mL _ (mR _)))
  dsimp only at vw
  have jr := hG6 _ (mL _ (mR _))
  dsimp only at jr
  obtain ⟨qc, jn, qk, xr⟩ := hG6 _ (mR _)
  dsimp only at jn qk xr
  have kb := fun o => blk_cell xr o
  have kc := fun o => blk_frozen xr o
  have nk := blk_lt' xr
  have fv : w.heap.size ≠ qc := Nat.ne_of_lt (Nat.lt_of_lt_of_le pk qk)
  have fw : w.heap.size + 1 + 1 ≠ qc := Nat.ne_of_lt (Nat.lt_of_lt_of_le pn qk)
  have ba : gx ≠ qc := Nat.ne_of_lt (Nat.lt_of_lt_of_le pp qk)
  have bc : gz ≠ qc := Nat.ne_of_lt (Nat.lt_of_lt_of_le pr qk)
  have bd : gs ≠ qc := Nat.ne_of_lt (Nat.lt_of_lt_of_le pu qk)
  have nl : w.heap.size ≤ qc := Nat.le_trans hB5.size qk
  clear hG6 hA6
  try simp only [jn]
  clear jn
  simp only [List.drop_succ_cons, List.drop_zero]
  have hz6 := hb6.size
  (try simp only [sA, sB, sC, sD] at hz6)
  obtain ⟨b5, a5, n5, c5, e5, hu, -⟩ := jr
  simp only [e5]
  clear e5 vt vu vv vw
  have xc := (hb6.block (w.heap.size) (blk_lt' qt.out)).trans qt.out
  clear zx zy pj qt
  obtain ⟨ww, wy, pv, mg⟩ := bk2 xc
  replace xc := Lib.hid xc
  have xd := (hb6.block (w.heap.size + 1 + 1) (blk_lt' qu.out)).trans qu.out
  clear ws wt pm qu
  obtain ⟨wz, uc, pw, mh⟩ := bk2 xd
  replace xd := Lib.hid xd
  have xe := (hb6.block (gx) (blk_lt' qv.out)).trans qv.out
  clear qy qz po qv
  obtain ⟨ud, ue, px, mi⟩ := bk2 xe
  replace xe := Lib.hid xe
  have xf := (hb6.block (gz) (blk_lt' qw.out)).trans qw.out
  clear wu wv pq qw
  obtain ⟨uf, ug, dc, mj⟩ := bk2 xf
  replace xf := Lib.hid xf
  have xg := (hb6.block (gs) (blk_lt' qx.out)).trans qx.out
  clear ja jb pt qx
  obtain ⟨uh, ui, de, ml⟩ := bk2 xg
  replace xg := Lib.hid xg
  replace hx := hx.below hb6
  replace hz := hz.below hb6
  replace hs := hs.below hb6
  have hB6 : Below w.heap.size w w6 := below_via hb6 (by assumption) (by go_size)
  go_wp2_with fail
  replace xc := xc.out
  replace xd := xd.out
  replace xe := xe.out
  replace xf := xf.out
  replace xg := xg.out
  refine chk (fun W => Below w.heap.size w W ∧ W.heap[w.heap.size]? = some (.cells #[.int .i64 A, .int .i64 B] 32 (0, 0)) ∧ W.heap[w.heap.size + 1 + 1]? = some (.cells #[.bool false, .slice none 0 0] 80 (0, 0)) ∧ W.heap[gz]? = some (.cells #[.bool b2, .slice a2 n2 c2] 80 (0, 0)) ∧ W.heap[gs]? = some (.cells #[.bool b3, .slice a3 n3 c3] 80 (0, 0)) ∧ W.heap[qc]? = some (.cells #[.bool b5, .slice a5 n5 c5] 80 (0, 0)) ∧ Wx W b2 a2 n2 c2 z ∧ Wx W b3 a3 n3 c3 z2 ∧ Wx W b5 a5 n5 c5 p4) (by refine ⟨?_, ?_, ?_, ?_, ?_, ?_, ?_, ?_, ?_⟩ <;> (exact ck)) ?_
  try clear hz
  try clear hs
  try clear hu
  clear ww wy pv xc
  clear wz uc pw xd
  clear ud ue px xe
  clear uf ug dc xf
  clear uh ui de xg
  clear hB6
  try clear kb
  try clear kc
  try clear xr
  rintro w7 ⟨hB7, xh, xi, xj, xk, xl, hz', hs', hu'⟩
  obtain ⟨jc, jd, df, mn⟩ := bk2 xh
  replace xh := Lib.hid xh
  obtain ⟨uj, uk, dg, mo⟩ := bk2 xi
  replace xi := Lib.hid xi
  obtain ⟨je, jf, dh, mp⟩ := bk2 xj
  replace xj := Lib.hid xj
  obtain ⟨jg, jh, di, mq⟩ := bk2 xk
  replace xk := Lib.hid xk
  obtain ⟨ji, jj, dj, mr⟩ := bk2 xl
  replace xl := Lib.hid xl
  have hz := hz'
  clear hz'
  have hs := hs'
  clear hs'
  have hu := hu'
  clear hu'
  refine wp_open (n := 8) (by kernel_rfl) (by kernel_rfl) (by kernel_rfl) (by kernel_rfl) ?_
  simp only [List.take_succ_cons, List.take_zero]
  apply wpS_quiet
  ·intro γ W hW hp
   have hs := hW.size
   (try simp only [sA, sB, sC, sD] at hs)
   have ql := fun x => (xcA hW (qc) 0 (by first | omega | go_size) x).trans ji
   have qm := fun x => (xcA hW (qc) 1 (by first | omega | go_size) x).trans jj
   clear hW hp
   refine ⟨rfl, ?_⟩
   go_big_quiet_op
   first | exact rfl
  ·exact locS_const _
  try simp only [Act.put, List.setIfInBounds_toArray, List.set_cons_succ, List.set_cons_zero, Nat.reduceAdd]
  apply wpS_quiet
  ·intro γ W hW hp
   have hs := hW.size
   (try simp only [sA, sB, sC, sD] at hs)
   have ql := fun x => (xcA hW (gz) 0 (by first | omega | go_size) x).trans je
   have qm := fun x => (xcA hW (gz) 1 (by first | omega | go_size) x).trans jf
   clear hW hp
   refine ⟨rfl, ?_⟩
   go_big_quiet_op
   first | exact rfl
  ·exact locS_const _
  try simp only [Act.put, List.setIfInBounds_toArray, List.set_cons_succ, List.set_cons_zero, Nat.reduceAdd]
  apply wpS_quiet
  ·intro γ W hW hp
   have hs := hW.size
   (try simp only [sA, sB, sC, sD] at hs)
   have ql := fun x => (xcA hW (gs) 0 (by first | omega | go_size) x).trans jg
   have qm := fun x => (xcA hW (gs) 1 (by first | omega | go_size) x).trans jh
   clear hW hp
   refine ⟨rfl, ?_⟩
   go_big_quiet_op
   first | exact rfl
  ·exact locS_const _
  try simp only [Act.put, List.setIfInBounds_toArray, List.set_cons_succ, List.set_cons_zero, Nat.reduceAdd]
  apply wpS_open (openW w.heap.size q1)
  ·intro γ W hW hp
   refine ⟨rfl, ?_⟩
   go_simp
   refine plainNew rfl ?_
   exact open_W (bgMul_eq (hz.below hW) (hs.below hW) Q1.out (by omega) (by omega)) (by (have := hW.size; (try simp only [sA, sB, sC, sD] at this); omega))
  try simp only [Act.put, List.setIfInBounds_toArray, List.set_cons_succ, List.set_cons_zero, Nat.reduceAdd]
  apply wpS_quiet
  ·intro γ W hW hp
   refine ⟨rfl, ?_⟩
   go_big_quiet_op
   first | exact rfl
  ·exact locS_const _
  try simp only [Act.put, List.setIfInBounds_toArray, List.set_cons_succ, List.set_cons_zero, Nat.reduceAdd]
  apply wpS_quiet
  ·intro γ W hW hp
   have hs := hW.size
   (try simp only [sA, sB, sC, sD] at hs)
   have ql := fun x => (xcA hW (w.heap.size) 0 (by first | omega | go_size) x).trans jc
   have qm := fun x => (xcA hW (w.heap.size) 1 (by first | omega | go_size) x).trans jd
   clear hW hp
   refine ⟨rfl, ?_⟩
   go_big_quiet_op
   first | exact rfl
  ·exact locS_const _
  try simp only [Act.put, List.setIfInBounds_toArray, List.set_cons_succ, List.set_cons_zero, Nat.reduceAdd]
  apply wpS_open (openW w.heap.size q2)
  ·intro γ W hW hp
   have ze := hp _ (mR _) (by kernel_rfl)
   dsimp only at ze
   refine ⟨rfl, ?_⟩
   go_simp
   refine plainNew rfl ?_
   obtain ⟨b5, a5, n5, c5, e5, h5, _⟩ := ze
   rw [e5]
   exact open_W (bgTimes_eq h5 Q2.out (by omega) (by omega)) (by (have := hW.size; (try simp only [sA, sB, sC, sD] at this); omega))
  try simp only [Act.put, List.setIfInBounds_toArray, List.set_cons_succ, List.set_cons_zero, Nat.reduceAdd]
  apply wpS_open (openW w.heap.size q3)
  ·intro γ W hW hp
   have zd := hp _ (mR _) (by kernel_rfl)
   dsimp only at zd
   refine ⟨rfl, ?_⟩
   go_simp
   refine plainNew rfl ?_
   obtain ⟨b5, a5, n5, c5, e5, h5, _⟩ := zd
   rw [e5]
   exact open_W (bgAdd_eq (hu.below hW) h5 Q3.out (by omega) (by omega)) (by (have := hW.size; (try simp only [sA, sB, sC, sD] at this); omega))
  try simp only [Act.put, List.setIfInBounds_toArray, List.set_cons_succ, List.set_cons_zero, Nat.reduceAdd]
  apply wpS_end
  intro γ w8 hb8 hG8 hA8
  have vy := hG8 _ (mL _ (mL _ (mR _)))
  dsimp only at vy
  have wc := hG8 _ (mL _ (mR _))
  dsimp only at wc
  have wd := hG8 _ (mR _)
  dsimp only at wd
  clear hG8 hA8
  simp only [List.drop_succ_cons, List.drop_zero]
  have hz8 := hb8.size
  (try simp only [sA, sB, sC, sD] at hz8)
  obtain ⟨b6, a6, n6, c6, e6, hv, -⟩ := wd
  simp only [e6]
  clear e6 vy wc
  have xm := (hb8.block (w.heap.size) (blk_lt' xh.out)).trans xh.out
  clear jc jd df xh
  obtain ⟨ul, um, dk, mu⟩ := bk2 xm
  replace xm := Lib.hid xm
  have xn := (hb8.block (w.heap.size + 1 + 1) (blk_lt' xi.out)).trans xi.out
  clear uj uk dg xi
  obtain ⟨un, uo, dl, mv⟩ := bk2 xn
  replace xn := Lib.hid xn
  have xo := (hb8.block (gz) (blk_lt' xj.out)).trans xj.out
  clear je jf dh xj
  obtain ⟨uq, ur, dm, mw⟩ := bk2 xo
  replace xo := Lib.hid xo
  have xp := (hb8.block (gs) (blk_lt' xk.out)).trans xk.out
  clear jg jh di xk
  obtain ⟨us, ut, dn, mx⟩ := bk2 xp
  replace xp := Lib.hid xp
  have xq := (hb8.block (qc) (blk_lt' xl.out)).trans xl.out
  clear ji jj dj xl
  obtain ⟨uw, uy, dq, my⟩ := bk2 xq
  replace xq := Lib.hid xq
  replace hz := hz.below hb8
  replace hs := hs.below hb8
  replace hu := hu.below hb8
  have hB8 : Below w.heap.size w w8 := below_via hb8 (by assumption) (by go_size)
  go_upto_region 5 with (fail)
  replace xm := xm.out
  replace xn := xn.out
  replace xo := xo.out
  replace xp := xp.out
  replace xq := xq.out
  refine chk (fun W => Below w.heap.size w W ∧ W.heap[w.heap.size + 1 + 1]? = some (.cells #[.bool false, .slice none 0 0] 80 (0, 0)) ∧ W.heap[gz]? = some (.cells #[.bool b2, .slice a2 n2 c2] 80 (0, 0)) ∧ W.heap[qc]? = some (.cells #[.bool b6, .slice a6 n6 c6] 80 (0, 0)) ∧ Wx W b2 a2 n2 c2 z ∧ Wx W b6 a6 n6 c6 q3) (by refine ⟨?_, ?_, ?_, ?_, ?_, ?_⟩ <;> (exact ck)) ?_
  try clear hz
  try clear hv
  clear ul um dk xm
  clear un uo dl xn
  clear uq ur dm xo
  clear us ut dn xp
  clear uw uy dq xq
  clear hB8
  rintro w9 ⟨hB9, jo, jp, jq, hz', hv'⟩
  obtain ⟨br, bu, mz, Qa⟩ := bk2 jo
  replace jo := Lib.hid jo
  obtain ⟨bw, bx, Qb, Qc⟩ := bk2 jp
  replace jp := Lib.hid jp
  obtain ⟨cd, ce, Qd, Qe⟩ := bk2 jq
  replace jq := Lib.hid jq
  have hz := hz'
  clear hz'
  have hv := hv'
  clear hv'
  clear hA hBB hx lx m1 m2 m3 m4 m5 m6 m7 m8
  go_wp2_with (first | (have _t := tok10; go_at_call 111; (with_reducible refine ((bgMul_eq (hz.below bel) (hv.below bel) R1.out (by omega) (by omega))).mono ?_); rintro e w10 ⟨b6, a6, n6, c6, rfl, h6, f6, hb10⟩; clear tok10 _t; have hz10 := hb10.size; (try simp only [sA, sB, sC, sD] at hz10); (try (obtain ⟨kq, jk⟩ := cfAt hb10 (w.heap.size); have xt := kq 0; have xu := kq 1; clear kq; simp [go_sem, *] at xt xu jk)); (try have gc : w.heap.size < w10.heap.size := by omega); (try (obtain ⟨kq, jl⟩ := cfAt hb10 (w.heap.size + 1); have xv := kq 0; have xw := kq 1; have xy := kq 2; have za := kq 3; clear kq; simp [go_sem, *] at xv xw xy za jl)); (try have ge : w.heap.size + 1 < w10.heap.size := by omega); (try (obtain ⟨kq, jm⟩ := cfAt hb10 (w.heap.size + 1 + 1); have zb := kq 0; have zc := kq 1; clear kq; simp [go_sem, *] at zb zc jm)); (try have gh : w.heap.size + 1 + 1 < w10.heap.size := by omega); (try clear bf bg nm); (try clear np); (try clear bh bi bj bk nr); (try clear nt); (try clear bm bn nu); (try clear nx); (try clear yj yk kd); (try clear ke); (try clear yl ym yn yo kf); (try clear kh); (try clear yp yq ki); (try clear kj); (try clear yr yt kl); (try clear km); (try clear yu yv yw yx kn); (try clear ko); (try clear yz va kp); (try clear kr); (try clear vb vc ks); (try clear kt); (try clear vd vf vg vh ku); (try clear kw); (try clear vi vj kx); (try clear ky)) | (have _t := tok11; go_at_call 112; (with_reducible refine ((bgTimes_eq h6 RT.out (by omega) (by omega))).mono ?_); rintro e w11 ⟨b7, a7, n7, c7, rfl, h7, f7, hb11⟩; clear tok11 _t; have hz11 := hb11.size; (try simp only [sA, sB, sC, sD] at hz11); (try (obtain ⟨kq, gk⟩ := cfAt hb11 (w.heap.size); have jt := kq 0; have ju := kq 1; clear kq; simp [go_sem, *] at jt ju gk)); (try have cf : w.heap.size < w11.heap.size := by omega); (try (obtain ⟨kq, gm⟩ := cfAt hb11 (w.heap.size + 1); have jv := kq 0; have jw := kq 1; have jx := kq 2; have jy := kq 3; clear kq; simp [go_sem, *] at jv jw jx jy gm)); (try have cg : w.heap.size + 1 < w11.heap.size := by omega); (try (obtain ⟨kq, gn⟩ := cfAt hb11 (w.heap.size + 1 + 1); have jz := kq 0; have ya := kq 1; clear kq; simp [go_sem, *] at jz ya gn)); (try have ch : w.heap.size + 1 + 1 < w11.heap.size := by omega); (try clear yj yk kd); (try clear ke); (try clear yl ym yn yo kf); (try clear kh); (try clear yp yq ki); (try clear kj); (try clear yr yt kl); (try clear km); (try clear yu yv yw yx kn); (try clear ko); (try clear yz va kp); (try clear kr); (try clear vb vc ks); (try clear kt); (try clear vd vf vg vh ku); (try clear kw); (try clear vi vj kx); (try clear ky); (try clear xt xu jk); (try clear gc); (try clear xv xw xy za jl); (try clear ge); (try clear zb zc jm); (try clear gh)))
  refine bodyPost_ret (v := .agg #[.bool b7, .slice a7 n7 c7]) (by simp [results, Tryz.results96, go_sem, *]) rfl ⟨_, _, _, _, rfl, ⟨h7.neg, ?_⟩, ?_, ?_⟩
  ·have hr7 := h7.row
   (repeat' first | exact hr7 | refine Sx.set ?_ ?_ _ _ | refine Sx.alloc ?_ _ | refine Sx.drew ?_ | (intro A e; have := f7 A e; (try simp only [sA, sB, sC, sD] at this); omega))
  ·(intro A e; have := f7 A e; (try simp only [sA, sB, sC, sD] at this); omega)
  exact bel
end
end Go.Proofs.YtnkmgpmehkholaaGreat
