/- Lemmas and contracts of functions. No condition. -/
import Derived.Test.YtbnglnbcfabmgaaPk18
import Derived.Test.YtbnglnbcfabmgaaPk28
namespace Go.Proofs.Ytbnglnbcfabmgaa
open Go.RowKit
set_option linter.unusedVariables false
set_option maxHeartbeats 1000000
set_option maxRecDepth 20000
set_option linter.unusedSimpArgs false
attribute [local go_sem] openAt openUpon
theorem addWholes_eq {b b2 : Bool} {a a2 : Option Addr} {n c n2 c2 : Nat} {x y v : Int} {w : World} (hs : Wx w b a n c x) (hs2 : Wx w b2 a2 n2 c2 y) (e : x + y = v) (l1 : ln x ≤ 10000) (l2 : ln y ≤ 10000) :
  Calls Try.prog 64 #[.agg #[.bool b, .slice a n c], .agg #[.bool b2, .slice a2 n2 c2]] w (NewW w v) := by
 have hl : n ≤ 10000 := by have := hs.ln; omega
 have hl2 : n2 ≤ 10000 := by have := hs2.ln; omega
 have TC : ∀ {b b2 : Bool} {a a2 : Option Addr} {n c n2 c2 : Nat} {x y : Int} (W : World) (s V : Int), Wx W b a n c x → Wx W b2 a2 n2 c2 y → n ≤ 10000 → n2 ≤ 10000 → (s = 1 ∨ s = -1) → (s = -1 → ab y ≤ ab x) → ab x + s * ab y = V → Calls Try.prog 77 #[.slice a n c, .slice a2 n2 c2, .int .i64 s] W (NewD W V 90001) := fun {b b2 a a2 n c n2 c2 x y} W s V h1 h2 g1 g2 h3 h4 h5 => by
  have := addLimbs_any a a2 n c n2 c2 s _ _ W h1.row h2.row (limbs_dig _) (limbs_dig _) (by omega) (by omega) h3 (by rw [val_ab', val_ab']; exact h4)
  rwa [val_ab', val_ab', h5] at this
 have TM : ∀ (W : World) (b : Bool) (V z : Int) (a : Option Addr) (n c : Nat) (zs : List Int), Sx W a n c zs → Dig zs → val zs = V → n ≤ 100001 → mkW b V = z → Calls Try.prog 76 #[.bool b, .slice a n c] W (NewW W z) := fun W b V z a n c zs h1 h2 h3 h4 h5 => by
  have := trimmed_any b a n c zs W h1 (by omega) h2
  rw [h3, h5] at this
  exact this
 have hn := hs.neg
 have hn2 := hs2.neg
 have E := Lib.hid e
 clear e
 by_cases hsame : b = b2
 ·have E1 := Lib.hid (show mkW b (ab x + ab y) = v by rw [hn, add_same (by rw [← hn, ← hn2, hsame]), E.out])
  subst hsame
  have P1 := Lib.hid (show ab x + 1 * ab y = ab x + ab y by omega)
  clear hn hn2
  go_enter Try.func64, Try.ntmps64
  go_wp2_with fail
  refine chk (fun W => Below w.heap.size w W ∧ W.heap[w.heap.size]? = some (.cells #[.bool b, .slice a n c] 79 (0, 0)) ∧ W.heap[w.heap.size + 1]? = some (.cells #[.bool b, .slice a2 n2 c2] 79 (0, 0)) ∧ W.heap[w.heap.size + 1 + 1]? = some (.cells #[.bool false, .slice none 0 0] 79 (0, 0)) ∧ Wx W b a n c x ∧ Wx W b a2 n2 c2 y) (by refine ⟨?_, ?_, ?_, ?_, ?_, ?_⟩ <;> (exact ck)) ?_
  try clear hs
  try clear hs2
  rintro w1 ⟨hB1, qa, qb, qc, hs', hs2'⟩
  obtain ⟨qh, qi, xh, zj⟩ := bk2 qa
  replace qa := Lib.hid qa
  obtain ⟨ql, qm, xi, zk⟩ := bk2 qb
  replace qb := Lib.hid qb
  obtain ⟨qp, qq, xj, zm⟩ := bk2 qc
  replace qc := Lib.hid qc
  have hs := hs'
  clear hs'
  have hs2 := hs2'
  clear hs2'
  refine wp_open (n := 8) (by kernel_rfl) (by kernel_rfl) (by kernel_rfl) (by kernel_rfl) ?_
  simp only [List.take_succ_cons, List.take_zero]
  apply wpS_quiet
  ·intro γ W hW hp
   refine ⟨rfl, ?_⟩
   go_big_quiet_op
   first | exact rfl
  ·exact locS_const _
  try simp only [Act.put, List.setIfInBounds_toArray, List.set_cons_succ, List.set_cons_zero, Nat.reduceAdd]
  apply wpS_quiet
  ·intro γ W hW hp
   have hs := hW.size
   (try simp only [sA, sB, sC, sD] at hs)
   have qw := fun x => (xcA hW (w.heap.size) 0 (by first | omega | go_size) x).trans qh
   have qx := fun x => (xcA hW (w.heap.size) 1 (by first | omega | go_size) x).trans qi
   clear hW hp
   refine ⟨rfl, ?_⟩
   go_big_quiet_op
   first | exact rfl
  ·exact locS_const _
  try simp only [Act.put, List.setIfInBounds_toArray, List.set_cons_succ, List.set_cons_zero, Nat.reduceAdd]
  apply wpS_quiet
  ·intro γ W hW hp
   refine ⟨rfl, ?_⟩
   go_big_quiet_op
   first | exact rfl
  ·exact locS_const _
  try simp only [Act.put, List.setIfInBounds_toArray, List.set_cons_succ, List.set_cons_zero, Nat.reduceAdd]
  apply wpS_quiet
  ·intro γ W hW hp
   have hs := hW.size
   (try simp only [sA, sB, sC, sD] at hs)
   have qw := fun x => (xcA hW (w.heap.size) 0 (by first | omega | go_size) x).trans qh
   have qx := fun x => (xcA hW (w.heap.size) 1 (by first | omega | go_size) x).trans qi
   clear hW hp
   refine ⟨rfl, ?_⟩
   go_big_quiet_op
   first | exact rfl
  ·exact locS_const _
  try simp only [Act.put, List.setIfInBounds_toArray, List.set_cons_succ, List.set_cons_zero, Nat.reduceAdd]
  apply wpS_quiet
  ·intro γ W hW hp
   refine ⟨rfl, ?_⟩
   go_big_quiet_op
   first | exact rfl
  ·exact locS_const _
  try simp only [Act.put, List.setIfInBounds_toArray, List.set_cons_succ, List.set_cons_zero, Nat.reduceAdd]
  apply wpS_quiet
  ·intro γ W hW hp
   have hs := hW.size
   (try simp only [sA, sB, sC, sD] at hs)
   have qw := fun x => (xcA hW (w.heap.size + 1) 0 (by first | omega | go_size) x).trans ql
   have qx := fun x => (xcA hW (w.heap.size + 1) 1 (by first | omega | go_size) x).trans qm
   clear hW hp
   refine ⟨rfl, ?_⟩
   go_big_quiet_op
   first | exact rfl
  ·exact locS_const _
  try simp only [Act.put, List.setIfInBounds_toArray, List.set_cons_succ, List.set_cons_zero, Nat.reduceAdd]
  apply wpS_open (openD w.heap.size (ab x + ab y) 90001)
  ·intro γ W hW hp
   refine ⟨rfl, ?_⟩
   go_simp
   refine plainNew rfl ?_
   exact open_D (TC W 1 _ (hs.below hW) (hs2.below hW) hl hl2 (.inl rfl) (fun e => by omega) P1.out) (by (have := hW.size; (try simp only [sA, sB, sC, sD] at this); omega))
  try simp only [Act.put, List.setIfInBounds_toArray, List.set_cons_succ, List.set_cons_zero, Nat.reduceAdd]
  apply wpS_open (openW w.heap.size v)
  ·intro γ W hW hp
   have qy := hp _ (mR _) (by kernel_rfl)
   dsimp only at qy
   refine ⟨rfl, ?_⟩
   go_simp
   refine plainNew rfl ?_
   obtain ⟨a6, n6, c6, zs6, e6, h6, d6, v6, m6, _⟩ := qy
   rw [e6]
   exact open_W (TM _ _ _ _ _ _ _ _ h6 d6 v6 (by omega) E1.out) (by (have := hW.size; (try simp only [sA, sB, sC, sD] at this); omega))
  try simp only [Act.put, List.setIfInBounds_toArray, List.set_cons_succ, List.set_cons_zero, Nat.reduceAdd]
  apply wpS_end
  intro γ w2 hb2 hG2 hA2
  have zn := hG2 _ (mL _ (mR _))
  dsimp only at zn
  have zo := hG2 _ (mR _)
  dsimp only at zo
  clear hG2 hA2
  simp only [List.drop_succ_cons, List.drop_zero]
  have hz2 := hb2.size
  (try simp only [sA, sB, sC, sD] at hz2)
  obtain ⟨b7, a7, n7, c7, e7, h7, f7⟩ := zo
  simp only [e7]
  clear e7 zn
  have qe := (hb2.block (w.heap.size) (blk_lt' qa.out)).trans qa.out
  clear qh qi xh qa
  obtain ⟨qn, qo, xr, zp⟩ := bk2 qe
  replace qe := Lib.hid qe
  have qf := (hb2.block (w.heap.size + 1) (blk_lt' qb.out)).trans qb.out
  clear ql qm xi qb
  obtain ⟨qr, qt, xt, zq⟩ := bk2 qf
  replace qf := Lib.hid qf
  have qd := (hb2.block (w.heap.size + 1 + 1) (blk_lt' qc.out)).trans qc.out
  clear qp qq xj qc
  obtain ⟨qu, qv, xu, zr⟩ := bk2 qd
  replace qd := Lib.hid qd
  replace hs := hs.below hb2
  replace hs2 := hs2.below hb2
  have hB2 : Below w.heap.size w w2 := below_via hb2 (by assumption) (by go_size)
  go_wp2_with fail
  refine bodyPost_ret (v := .agg #[.bool b7, .slice a7 n7 c7]) (by simp [results, Try.results64, go_sem, qu, qv]) rfl ⟨_, _, _, _, rfl, ?_, f7, ?_⟩
  ·have HO := qd.out
   (exact ck)
  ·(exact ck)
 ·have hb : (b == b2) = false := by simpa using hsame
  have hne : ngB x ≠ ngB y := by rw [← hn, ← hn2]; exact hsame
  by_cases hge : ab y ≤ ab x
  ·have E1 := Lib.hid (show mkW b (ab x - ab y) = v by rw [hn, add_other hne hge, E.out])
   have P1 := Lib.hid (show ab x + -1 * ab y = ab x - ab y by omega)
   have HG := Lib.hid hge
   have hcm : ¬ cmpI (ab x) (ab y) < 0 := by
    unfold cmpI
    split
    ·omega
    ·split <;> omega
   have T3 := fun (W : World) (h1 : Wx W b a n c x) (h2 : Wx W b2 a2 n2 c2 y) => Lib.hid (compareSizes_any b b2 a a2 n c n2 c2 x y W h1 h2 (by omega) (by omega))
   generalize cmpI (ab x) (ab y) = cm at *
   clear hn hn2 hne hge hsame
   have tok1 := trivial
   have tok2 := trivial
   go_enter Try.func64, Try.ntmps64
   go_upto_region 1 with (fail)
   refine chk (fun W => Below w.heap.size w W ∧ W.heap[w.heap.size]? = some (.cells #[.bool b, .slice a n c] 79 (0, 0)) ∧ W.heap[w.heap.size + 1]? = some (.cells #[.bool b2, .slice a2 n2 c2] 79 (0, 0)) ∧ W.heap[w.heap.size + 1 + 1]? = some (.cells #[.bool false, .slice none 0 0] 79 (0, 0)) ∧ Wx W b a n c x ∧ Wx W b2 a2 n2 c2 y) (by refine ⟨?_, ?_, ?_, ?_, ?_, ?_⟩ <;> (exact ck)) ?_
   try clear hs
   try clear hs2
   rintro w1 ⟨hB1, qa, qb, qc, hs', hs2'⟩
   obtain ⟨qh, qi, xh, zj⟩ := bk2 qa
   replace qa := Lib.hid qa
   obtain ⟨ql, qm, xi, zk⟩ := bk2 qb
   replace qb := Lib.hid qb
   obtain ⟨qp, qq, xj, zm⟩ := bk2 qc
   replace qc := Lib.hid qc
   have hs := hs'
   clear hs'
   have hs2 := hs2'
   clear hs2'
   go_wp2_with (first | (have _t := tok2; go_at_call 78; (with_reducible refine ((T3 _ hs hs2).out).mono ?_); rintro e w2 ⟨rfl, hb2⟩; clear tok2 _t; have hz2 := hb2.size; (try simp only [sA, sB, sC, sD] at hz2); (try (obtain ⟨kq, xx⟩ := cfAt hb2 (w.heap.size); have xb := kq 0; have xc := kq 1; clear kq; simp [go_sem, *] at xb xc xx)); (try have jc : w.heap.size < w2.heap.size := by omega); (try (obtain ⟨kq, xy⟩ := cfAt hb2 (w.heap.size + 1); have xd := kq 0; have xe := kq 1; clear kq; simp [go_sem, *] at xd xe xy)); (try have jd : w.heap.size + 1 < w2.heap.size := by omega); (try (obtain ⟨kq, xz⟩ := cfAt hb2 (w.heap.size + 1 + 1); have xf := kq 0; have xg := kq 1; clear kq; simp [go_sem, *] at xf xg xz)); (try have je : w.heap.size + 1 + 1 < w2.heap.size := by omega); (try clear zc zd jf); (try clear jg); (try clear ze zg jh); (try clear ji); (try clear zh zi jj); (try clear jk)))
   have qe := (hb2.block (w.heap.size) (blk_lt' qa.out)).trans qa.out
   clear qh qi xh qa
   obtain ⟨qn, qo, xr, zp⟩ := bk2 qe
   replace qe := Lib.hid qe
   have qf := (hb2.block (w.heap.size + 1) (blk_lt' qb.out)).trans qb.out
   clear ql qm xi qb
   obtain ⟨qr, qt, xt, zq⟩ := bk2 qf
   replace qf := Lib.hid qf
   have qd := (hb2.block (w.heap.size + 1 + 1) (blk_lt' qc.out)).trans qc.out
   clear qp qq xj qc
   obtain ⟨qu, qv, xu, zr⟩ := bk2 qd
   replace qd := Lib.hid qd
   replace hs := hs.below hb2
   replace hs2 := hs2.below hb2
   have hB2 : Below w.heap.size w w2 := below_via hb2 (by assumption) (by go_size)
   refine wp_open (n := 8) (by kernel_rfl) (by kernel_rfl) (by kernel_rfl) (by kernel_rfl) ?_
   simp only [List.take_succ_cons, List.take_zero]
   apply wpS_quiet
   ·intro γ W hW hp
    refine ⟨rfl, ?_⟩
    go_big_quiet_op
    first | exact rfl
   ·exact locS_const _
   try simp only [Act.put, List.setIfInBounds_toArray, List.set_cons_succ, List.set_cons_zero, Nat.reduceAdd]
   apply wpS_quiet
   ·intro γ W hW hp
    have hs := hW.size
    (try simp only [sA, sB, sC, sD] at hs)
    have qw := fun x => (xcA hW (w.heap.size) 0 (by first | omega | go_size) x).trans qn
    have qx := fun x => (xcA hW (w.heap.size) 1 (by first | omega | go_size) x).trans qo
    clear hW hp
    refine ⟨rfl, ?_⟩
    go_big_quiet_op
    first | exact rfl
   ·exact locS_const _
   try simp only [Act.put, List.setIfInBounds_toArray, List.set_cons_succ, List.set_cons_zero, Nat.reduceAdd]
   apply wpS_quiet
   ·intro γ W hW hp
    refine ⟨rfl, ?_⟩
    go_big_quiet_op
    first | exact rfl
   ·exact locS_const _
   try simp only [Act.put, List.setIfInBounds_toArray, List.set_cons_succ, List.set_cons_zero, Nat.reduceAdd]
   apply wpS_quiet
   ·intro γ W hW hp
    have hs := hW.size
    (try simp only [sA, sB, sC, sD] at hs)
    have qw := fun x => (xcA hW (w.heap.size) 0 (by first | omega | go_size) x).trans qn
    have qx := fun x => (xcA hW (w.heap.size) 1 (by first | omega | go_size) x).trans qo
    clear hW hp
    refine ⟨rfl, ?_⟩
    go_big_quiet_op
    first | exact rfl
   ·exact locS_const _
   try simp only [Act.put, List.setIfInBounds_toArray, List.set_cons_succ, List.set_cons_zero, Nat.reduceAdd]
   apply wpS_quiet
   ·intro γ W hW hp
    refine ⟨rfl, ?_⟩
    go_big_quiet_op
    first | exact rfl
   ·exact locS_const _
   try simp only [Act.put, List.setIfInBounds_toArray, List.set_cons_succ, List.set_cons_zero, Nat.reduceAdd]
   apply wpS_quiet
   ·intro γ W hW hp
    have hs := hW.size
    (try simp only [sA, sB, sC, sD] at hs)
    have qw := fun x => (xcA hW (w.heap.size + 1) 0 (by first | omega | go_size) x).trans qr
    have qx := fun x => (xcA hW (w.heap.size + 1) 1 (by first | omega | go_size) x).trans qt
    clear hW hp
    refine ⟨rfl, ?_⟩
    go_big_quiet_op
    first | exact rfl
   ·exact locS_const _
   try simp only [Act.put, List.setIfInBounds_toArray, List.set_cons_succ, List.set_cons_zero, Nat.reduceAdd]
   apply wpS_open (openD w.heap.size (ab x - ab y) 90001)
   ·intro γ W hW hp
    refine ⟨rfl, ?_⟩
    go_simp
    refine plainNew rfl ?_
    exact open_D (TC W (-1) _ (hs.below hW) (hs2.below hW) hl hl2 (.inr rfl) (fun e => HG.out) P1.out) (by (have := hW.size; (try simp only [sA, sB, sC, sD] at this); omega))
   try simp only [Act.put, List.setIfInBounds_toArray, List.set_cons_succ, List.set_cons_zero, Nat.reduceAdd]
   apply wpS_open (openW w.heap.size v)
   ·intro γ W hW hp
    have qy := hp _ (mR _) (by kernel_rfl)
    dsimp only at qy
    refine ⟨rfl, ?_⟩
    go_simp
    refine plainNew rfl ?_
    obtain ⟨a6, n6, c6, zs6, e6, h6, d6, v6, m6, _⟩ := qy
    rw [e6]
    exact open_W (TM _ _ _ _ _ _ _ _ h6 d6 v6 (by omega) E1.out) (by (have := hW.size; (try simp only [sA, sB, sC, sD] at this); omega))
   try simp only [Act.put, List.setIfInBounds_toArray, List.set_cons_succ, List.set_cons_zero, Nat.reduceAdd]
   apply wpS_end
   intro γ w3 hb3 hG3 hA3
   have zt := hG3 _ (mL _ (mR _))
   dsimp only at zt
   have zu := hG3 _ (mR _)
   dsimp only at zu
   clear hG3 hA3
   simp only [List.drop_succ_cons, List.drop_zero]
   have hz3 := hb3.size
   (try simp only [sA, sB, sC, sD] at hz3)
   obtain ⟨b7, a7, n7, c7, e7, h7, f7⟩ := zu
   simp only [e7]
   clear e7 zt
   have qj := (hb3.block (w.heap.size) (blk_lt' qe.out)).trans qe.out
   clear qn qo xr qe
   obtain ⟨qz, xa, zv, jl⟩ := bk2 qj
   replace qj := Lib.hid qj
   have qk := (hb3.block (w.heap.size + 1) (blk_lt' qf.out)).trans qf.out
   clear qr qt xt qf
   obtain ⟨xm, xn, zw, jm⟩ := bk2 qk
   replace qk := Lib.hid qk
   have qg := (hb3.block (w.heap.size + 1 + 1) (blk_lt' qd.out)).trans qd.out
   clear qu qv xu qd
   obtain ⟨xo, xp, zx, jn⟩ := bk2 qg
   replace qg := Lib.hid qg
   replace hs := hs.below hb3
   replace hs2 := hs2.below hb3
   have hB3 : Below w.heap.size w w3 := below_via hb3 (by assumption) (by go_size)
   go_wp2_with fail
   refine bodyPost_ret (v := .agg #[.bool b7, .slice a7 n7 c7]) (by simp [results, Try.results64, go_sem, xo, xp]) rfl ⟨_, _, _, _, rfl, ?_, f7, ?_⟩
   ·have HO := qg.out
    (exact ck)
   ·(exact ck)
  ·have E1 := Lib.hid (show mkW b2 (ab y - ab x) = v by rw [hn2, add_other (fun e => hne e.symm) (by omega), Int.add_comm, E.out])
   have P1 := Lib.hid (show ab y + -1 * ab x = ab y - ab x by omega)
   have HG := Lib.hid (show ab x ≤ ab y by omega)
   have hcm : cmpI (ab x) (ab y) < 0 := by rw [cmp_lt (by omega)]; omega
   have T3 := fun (W : World) (h1 : Wx W b a n c x) (h2 : Wx W b2 a2 n2 c2 y) => Lib.hid (compareSizes_any b b2 a a2 n c n2 c2 x y W h1 h2 (by omega) (by omega))
   generalize cmpI (ab x) (ab y) = cm at *
   clear hn hn2 hne hge hsame
   have tok1 := trivial
   have tok2 := trivial
   go_enter Try.func64, Try.ntmps64
   go_upto_region 1 with (fail)
   refine chk (fun W => Below w.heap.size w W ∧ W.heap[w.heap.size]? = some (.cells #[.bool b, .slice a n c] 79 (0, 0)) ∧ W.heap[w.heap.size + 1]? = some (.cells #[.bool b2, .slice a2 n2 c2] 79 (0, 0)) ∧ W.heap[w.heap.size + 1 + 1]? = some (.cells #[.bool false, .slice none 0 0] 79 (0, 0)) ∧ Wx W b a n c x ∧ Wx W b2 a2 n2 c2 y) (by refine ⟨?_, ?_, ?_, ?_, ?_, ?_⟩ <;> (exact ck)) ?_
   try clear hs
   try clear hs2
   rintro w1 ⟨hB1, qa, qb, qc, hs', hs2'⟩
   obtain ⟨qh, qi, xh, zj⟩ := bk2 qa
   replace qa := Lib.hid qa
   obtain ⟨ql, qm, xi, zk⟩ := bk2 qb
   replace qb := Lib.hid qb
   obtain ⟨qp, qq, xj, zm⟩ := bk2 qc
   replace qc := Lib.hid qc
   have hs := hs'
   clear hs'
   have hs2 := hs2'
   clear hs2'
   go_wp2_with (first | (have _t := tok2; go_at_call 78; (with_reducible refine ((T3 _ hs hs2).out).mono ?_); rintro e w2 ⟨rfl, hb2⟩; clear tok2 _t; have hz2 := hb2.size; (try simp only [sA, sB, sC, sD] at hz2); (try (obtain ⟨kq, xx⟩ := cfAt hb2 (w.heap.size); have xb := kq 0; have xc := kq 1; clear kq; simp [go_sem, *] at xb xc xx)); (try have jc : w.heap.size < w2.heap.size := by omega); (try (obtain ⟨kq, xy⟩ := cfAt hb2 (w.heap.size + 1); have xd := kq 0; have xe := kq 1; clear kq; simp [go_sem, *] at xd xe xy)); (try have jd : w.heap.size + 1 < w2.heap.size := by omega); (try (obtain ⟨kq, xz⟩ := cfAt hb2 (w.heap.size + 1 + 1); have xf := kq 0; have xg := kq 1; clear kq; simp [go_sem, *] at xf xg xz)); (try have je : w.heap.size + 1 + 1 < w2.heap.size := by omega); (try clear zc zd jf); (try clear jg); (try clear ze zg jh); (try clear ji); (try clear zh zi jj); (try clear jk)))
   have qe := (hb2.block (w.heap.size) (blk_lt' qa.out)).trans qa.out
   clear qh qi xh qa
   obtain ⟨qn, qo, xr, zp⟩ := bk2 qe
   replace qe := Lib.hid qe
   have qf := (hb2.block (w.heap.size + 1) (blk_lt' qb.out)).trans qb.out
   clear ql qm xi qb
   obtain ⟨qr, qt, xt, zq⟩ := bk2 qf
   replace qf := Lib.hid qf
   have qd := (hb2.block (w.heap.size + 1 + 1) (blk_lt' qc.out)).trans qc.out
   clear qp qq xj qc
   obtain ⟨qu, qv, xu, zr⟩ := bk2 qd
   replace qd := Lib.hid qd
   replace hs := hs.below hb2
   replace hs2 := hs2.below hb2
   have hB2 : Below w.heap.size w w2 := below_via hb2 (by assumption) (by go_size)
   replace qe := qe.out
   replace qf := qf.out
   replace qd := qd.out
   refine chk (fun W => Below w.heap.size w W ∧ W.heap[w.heap.size]? = some (.cells #[.bool b2, .slice a2 n2 c2] 79 (0, 0)) ∧ W.heap[w.heap.size + 1]? = some (.cells #[.bool b, .slice a n c] 79 (0, 0)) ∧ W.heap[w.heap.size + 1 + 1]? = some (.cells #[.bool false, .slice none 0 0] 79 (0, 0)) ∧ Wx W b a n c x ∧ Wx W b2 a2 n2 c2 y) (by refine ⟨?_, ?_, ?_, ?_, ?_, ?_⟩ <;> (exact ck)) ?_
   try clear hs
   try clear hs2
   clear qn qo xr qe
   clear qr qt xt qf
   clear qu qv xu qd
   clear hB2
   rintro w3 ⟨hB3, qj, qk, qg, hs', hs2'⟩
   obtain ⟨qz, xa, zv, jl⟩ := bk2 qj
   replace qj := Lib.hid qj
   obtain ⟨xm, xn, zw, jm⟩ := bk2 qk
   replace qk := Lib.hid qk
   obtain ⟨xo, xp, zx, jn⟩ := bk2 qg
   replace qg := Lib.hid qg
   have hs := hs'
   clear hs'
   have hs2 := hs2'
   clear hs2'
   refine wp_open (n := 8) (by kernel_rfl) (by kernel_rfl) (by kernel_rfl) (by kernel_rfl) ?_
   simp only [List.take_succ_cons, List.take_zero]
   apply wpS_quiet
   ·intro γ W hW hp
    refine ⟨rfl, ?_⟩
    go_big_quiet_op
    first | exact rfl
   ·exact locS_const _
   try simp only [Act.put, List.setIfInBounds_toArray, List.set_cons_succ, List.set_cons_zero, Nat.reduceAdd]
   apply wpS_quiet
   ·intro γ W hW hp
    have hs := hW.size
    (try simp only [sA, sB, sC, sD] at hs)
    have qw := fun x => (xcA hW (w.heap.size) 0 (by first | omega | go_size) x).trans qz
    have qx := fun x => (xcA hW (w.heap.size) 1 (by first | omega | go_size) x).trans xa
    clear hW hp
    refine ⟨rfl, ?_⟩
    go_big_quiet_op
    first | exact rfl
   ·exact locS_const _
   try simp only [Act.put, List.setIfInBounds_toArray, List.set_cons_succ, List.set_cons_zero, Nat.reduceAdd]
   apply wpS_quiet
   ·intro γ W hW hp
    refine ⟨rfl, ?_⟩
    go_big_quiet_op
    first | exact rfl
   ·exact locS_const _
   try simp only [Act.put, List.setIfInBounds_toArray, List.set_cons_succ, List.set_cons_zero, Nat.reduceAdd]
   apply wpS_quiet
   ·intro γ W hW hp
    have hs := hW.size
    (try simp only [sA, sB, sC, sD] at hs)
    have qw := fun x => (xcA hW (w.heap.size) 0 (by first | omega | go_size) x).trans qz
    have qx := fun x => (xcA hW (w.heap.size) 1 (by first | omega | go_size) x).trans xa
    clear hW hp
    refine ⟨rfl, ?_⟩
    go_big_quiet_op
    first | exact rfl
   ·exact locS_const _
   try simp only [Act.put, List.setIfInBounds_toArray, List.set_cons_succ, List.set_cons_zero, Nat.reduceAdd]
   apply wpS_quiet
   ·intro γ W hW hp
    refine ⟨rfl, ?_⟩
    go_big_quiet_op
    first | exact rfl
   ·exact locS_const _
   try simp only [Act.put, List.setIfInBounds_toArray, List.set_cons_succ, List.set_cons_zero, Nat.reduceAdd]
   apply wpS_quiet
   ·intro γ W hW hp
    have hs := hW.size
    (try simp only [sA, sB, sC, sD] at hs)
    have qw := fun x => (xcA hW (w.heap.size + 1) 0 (by first | omega | go_size) x).trans xm
    have qx := fun x => (xcA hW (w.heap.size + 1) 1 (by first | omega | go_size) x).trans xn
    clear hW hp
    refine ⟨rfl, ?_⟩
    go_big_quiet_op
    first | exact rfl
   ·exact locS_const _
   try simp only [Act.put, List.setIfInBounds_toArray, List.set_cons_succ, List.set_cons_zero, Nat.reduceAdd]
   apply wpS_open (openD w.heap.size (ab y - ab x) 90001)
   ·intro γ W hW hp
    refine ⟨rfl, ?_⟩
    go_simp
    refine plainNew rfl ?_
    exact open_D (TC W (-1) _ (hs2.below hW) (hs.below hW) hl2 hl (.inr rfl) (fun e => HG.out) P1.out) (by (have := hW.size; (try simp only [sA, sB, sC, sD] at this); omega))
   try simp only [Act.put, List.setIfInBounds_toArray, List.set_cons_succ, List.set_cons_zero, Nat.reduceAdd]
   apply wpS_open (openW w.heap.size v)
   ·intro γ W hW hp
    have qy := hp _ (mR _) (by kernel_rfl)
    dsimp only at qy
    refine ⟨rfl, ?_⟩
    go_simp
    refine plainNew rfl ?_
    obtain ⟨a6, n6, c6, zs6, e6, h6, d6, v6, m6, _⟩ := qy
    rw [e6]
    exact open_W (TM _ _ _ _ _ _ _ _ h6 d6 v6 (by omega) E1.out) (by (have := hW.size; (try simp only [sA, sB, sC, sD] at this); omega))
   try simp only [Act.put, List.setIfInBounds_toArray, List.set_cons_succ, List.set_cons_zero, Nat.reduceAdd]
   apply wpS_end
   intro γ w4 hb4 hG4 hA4
   have zy := hG4 _ (mL _ (mR _))
   dsimp only at zy
   have zz := hG4 _ (mR _)
   dsimp only at zz
   clear hG4 hA4
   simp only [List.drop_succ_cons, List.drop_zero]
   have hz4 := hb4.size
   (try simp only [sA, sB, sC, sD] at hz4)
   obtain ⟨b7, a7, n7, c7, e7, h7, f7⟩ := zz
   simp only [e7]
   clear e7 zy
   have za := (hb4.block (w.heap.size) (blk_lt' qj.out)).trans qj.out
   clear qz xa zv qj
   obtain ⟨jo, jp, jt, ju⟩ := bk2 za
   replace za := Lib.hid za
   have zb := (hb4.block (w.heap.size + 1) (blk_lt' qk.out)).trans qk.out
   clear xm xn zw qk
   obtain ⟨jq, jr, jv, jw⟩ := bk2 zb
   replace zb := Lib.hid zb
   have xw := (hb4.block (w.heap.size + 1 + 1) (blk_lt' qg.out)).trans qg.out
   clear xo xp zx qg
   obtain ⟨ja, jb, jx, jy⟩ := bk2 xw
   replace xw := Lib.hid xw
   replace hs := hs.below hb4
   replace hs2 := hs2.below hb4
   have hB4 : Below w.heap.size w w4 := below_via hb4 (by assumption) (by go_size)
   go_wp2_with fail
   refine bodyPost_ret (v := .agg #[.bool b7, .slice a7 n7 c7]) (by simp [results, Try.results64, go_sem, ja, jb]) rfl ⟨_, _, _, _, rfl, ?_, f7, ?_⟩
   ·have HO := xw.out
    (exact ck)
   ·(exact ck)
end Go.Proofs.Ytbnglnbcfabmgaa
