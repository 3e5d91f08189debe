/- Lemmas and contracts of functions. No condition. -/
import Derived.Test.YtnemnkbcbokafaaGreatPk20
import Derived.Test.YtnemnkbcbokafaaGreatPk31
namespace Go.Proofs.YtnemnkbcbokafaaGreat
open Go.RowKit
set_option linter.unusedVariables false
set_option maxHeartbeats 1000000
set_option maxRecDepth 20000
set_option linter.unusedSimpArgs false
attribute [local go_sem] openAt openUpon
theorem addWholes_eq {b b2 : Bool} {a a2 : Option Addr} {n c n2 c2 : Nat} {x y v : Int} {w : World} (hs : Wx w b a n c x) (hs2 : Wx w b2 a2 n2 c2 y) (e : x + y = v) (l1 : ln x ≤ 10000) (l2 : ln y ≤ 10000) :
  Calls Tryz.prog 80 #[.agg #[.bool b, .slice a n c], .agg #[.bool b2, .slice a2 n2 c2]] w (NewW w v) := by
 have hl : n ≤ 10000 := by have := hs.ln; omega
 have hl2 : n2 ≤ 10000 := by have := hs2.ln; omega
 have TC : ∀ {b b2 : Bool} {a a2 : Option Addr} {n c n2 c2 : Nat} {x y : Int} (W : World) (s V : Int), Wx W b a n c x → Wx W b2 a2 n2 c2 y → n ≤ 10000 → n2 ≤ 10000 → (s = 1 ∨ s = -1) → (s = -1 → ab y ≤ ab x) → ab x + s * ab y = V → Calls Tryz.prog 95 #[.slice a n c, .slice a2 n2 c2, .int .i64 s] W (NewD W V 90001) := fun {b b2 a a2 n c n2 c2 x y} W s V h1 h2 g1 g2 h3 h4 h5 => by
  have := addLimbs_any a a2 n c n2 c2 s _ _ W h1.row h2.row (limbs_dig _) (limbs_dig _) (by omega) (by omega) h3 (by rw [val_ab', val_ab']; exact h4)
  rwa [val_ab', val_ab', h5] at this
 have TM : ∀ (W : World) (b : Bool) (V z : Int) (a : Option Addr) (n c : Nat) (zs : List Int), Sx W a n c zs → Dig zs → val zs = V → n ≤ 100001 → mkW b V = z → Calls Tryz.prog 94 #[.bool b, .slice a n c] W (NewW W z) := fun W b V z a n c zs h1 h2 h3 h4 h5 => by
  have := trimmed_any b a n c zs W h1 (by omega) h2
  rw [h3, h5] at this
  exact this
 have hn := hs.neg
 have hn2 := hs2.neg
 have E := Lib.hid e
 clear e
 by_cases hsame : b = b2
 ·have E1 := Lib.hid (show mkW b (ab x + ab y) = v by rw [hn, add_same (by rw [← hn, ← hn2, hsame]), E.out])
  subst hsame
  have P1 := Lib.hid (show ab x + 1 * ab y = ab x + ab y by omega)
  clear hn hn2
  go_enter Tryz.func80, Tryz.ntmps80
  go_wp2_with fail
  refine chk (fun W => Below w.heap.size w W ∧ W.heap[w.heap.size]? = some (.cells #[.bool b, .slice a n c] 88 (0, 0)) ∧ W.heap[w.heap.size + 1]? = some (.cells #[.bool b, .slice a2 n2 c2] 88 (0, 0)) ∧ W.heap[w.heap.size + 1 + 1]? = some (.cells #[.bool false, .slice none 0 0] 88 (0, 0)) ∧ Wx W b a n c x ∧ Wx W b a2 n2 c2 y) (by refine ⟨?_, ?_, ?_, ?_, ?_, ?_⟩ <;> (exact ck)) ?_
  try clear hs
  try clear hs2
  rintro w1 ⟨hB1, qa, qb, qc, hs', hs2'⟩
  obtain ⟨qj, qk, xr, zo⟩ := bk2 qa
  replace qa := Lib.hid qa
  obtain ⟨qp, qq, xt, zp⟩ := bk2 qb
  replace qb := Lib.hid qb
  obtain ⟨qu, qw, xu, zq⟩ := bk2 qc
  replace qc := Lib.hid qc
  have hs := hs'
  clear hs'
  have hs2 := hs2'
  clear hs2'
  refine wp_open (n := 8) (by kernel_rfl) (by kernel_rfl) (by kernel_rfl) (by kernel_rfl) ?_
  simp only [List.take_succ_cons, List.take_zero]
  apply wpS_quiet
  ·intro γ W hW hp
   refine ⟨rfl, ?_⟩
   go_big_quiet_op
   first | exact rfl
  ·exact locS_const _
  try simp only [Act.put, List.setIfInBounds_toArray, List.set_cons_succ, List.set_cons_zero, Nat.reduceAdd]
  apply wpS_quiet
  ·intro γ W hW hp
   have hs := hW.size
   (try simp only [sA, sB, sC, sD] at hs)
   have xe := fun x => (xcA hW (w.heap.size) 0 (by first | omega | go_size) x).trans qj
   have xf := fun x => (xcA hW (w.heap.size) 1 (by first | omega | go_size) x).trans qk
   clear hW hp
   refine ⟨rfl, ?_⟩
   go_big_quiet_op
   first | exact rfl
  ·exact locS_const _
  try simp only [Act.put, List.setIfInBounds_toArray, List.set_cons_succ, List.set_cons_zero, Nat.reduceAdd]
  apply wpS_quiet
  ·intro γ W hW hp
   refine ⟨rfl, ?_⟩
   go_big_quiet_op
   first | exact rfl
  ·exact locS_const _
  try simp only [Act.put, List.setIfInBounds_toArray, List.set_cons_succ, List.set_cons_zero, Nat.reduceAdd]
  apply wpS_quiet
  ·intro γ W hW hp
   have hs := hW.size
   (try simp only [sA, sB, sC, sD] at hs)
   have xe := fun x => (xcA hW (w.heap.size) 0 (by first | omega | go_size) x).trans qj
   have xf := fun x => (xcA hW (w.heap.size) 1 (by first | omega | go_size) x).trans qk
   clear hW hp
   refine ⟨rfl, ?_⟩
   go_big_quiet_op
   first | exact rfl
  ·exact locS_const _
  try simp only [Act.put, List.setIfInBounds_toArray, List.set_cons_succ, List.set_cons_zero, Nat.reduceAdd]
  apply wpS_quiet
  ·intro γ W hW hp
   refine ⟨rfl, ?_⟩
   go_big_quiet_op
   first | exact rfl
  ·exact locS_const _
  try simp only [Act.put, List.setIfInBounds_toArray, List.set_cons_succ, List.set_cons_zero, Nat.reduceAdd]
  apply wpS_quiet
  ·intro γ W hW hp
   have hs := hW.size
   (try simp only [sA, sB, sC, sD] at hs)
   have xe := fun x => (xcA hW (w.heap.size + 1) 0 (by first | omega | go_size) x).trans qp
   have xf := fun x => (xcA hW (w.heap.size + 1) 1 (by first | omega | go_size) x).trans qq
   clear hW hp
   refine ⟨rfl, ?_⟩
   go_big_quiet_op
   first | exact rfl
  ·exact locS_const _
  try simp only [Act.put, List.setIfInBounds_toArray, List.set_cons_succ, List.set_cons_zero, Nat.reduceAdd]
  apply wpS_open (openD w.heap.size (ab x + ab y) 90001)
  ·intro γ W hW hp
   refine ⟨rfl, ?_⟩
   go_simp
   refine plainNew rfl ?_
   exact open_D (TC W 1 _ (hs.below hW) (hs2.below hW) hl hl2 (.inl rfl) (fun e => by omega) P1.out) (by (have := hW.size; (try simp only [sA, sB, sC, sD] at this); omega))
  try simp only [Act.put, List.setIfInBounds_toArray, List.set_cons_succ, List.set_cons_zero, Nat.reduceAdd]
  apply wpS_open (openW w.heap.size v)
  ·intro γ W hW hp
   have xg := hp _ (mR _) (by kernel_rfl)
   dsimp only at xg
   refine ⟨rfl, ?_⟩
   go_simp
   refine plainNew rfl ?_
   obtain ⟨a6, n6, c6, zs6, e6, h6, d6, v6, m6, _⟩ := xg
   rw [e6]
   exact open_W (TM _ _ _ _ _ _ _ _ h6 d6 v6 (by omega) E1.out) (by (have := hW.size; (try simp only [sA, sB, sC, sD] at this); omega))
  try simp only [Act.put, List.setIfInBounds_toArray, List.set_cons_succ, List.set_cons_zero, Nat.reduceAdd]
  apply wpS_end
  intro γ w2 hb2 hG2 hA2
  have zr := hG2 _ (mL _ (mR _))
  dsimp only at zr
  have zt := hG2 _ (mR _)
  dsimp only at zt
  clear hG2 hA2
  simp only [List.drop_succ_cons, List.drop_zero]
  have hz2 := hb2.size
  (try simp only [sA, sB, sC, sD] at hz2)
  obtain ⟨b7, a7, n7, c7, e7, h7, f7⟩ := zt
  simp only [e7]
  clear e7 zr
  have qg := (hb2.block (w.heap.size) (blk_lt' qa.out)).trans qa.out
  clear qj qk xr qa
  obtain ⟨qr, qt, xz, zu⟩ := bk2 qg
  replace qg := Lib.hid qg
  have qh := (hb2.block (w.heap.size + 1) (blk_lt' qb.out)).trans qb.out
  clear qp qq xt qb
  obtain ⟨qz, xa, za, zv⟩ := bk2 qh
  replace qh := Lib.hid qh
  have qf := (hb2.block (w.heap.size + 1 + 1) (blk_lt' qc.out)).trans qc.out
  clear qu qw xu qc
  obtain ⟨xb, xc, zb, zw⟩ := bk2 qf
  replace qf := Lib.hid qf
  replace hs := hs.below hb2
  replace hs2 := hs2.below hb2
  have hB2 : Below w.heap.size w w2 := below_via hb2 (by assumption) (by first | exact hB1.size | go_size)
  go_wp2_with fail
  refine bodyPost_ret (v := .agg #[.bool b7, .slice a7 n7 c7]) (by simp [results, Tryz.results80, go_sem, xb, xc]) rfl ⟨_, _, _, _, rfl, ?_, f7, ?_⟩
  ·have HO := qf.out
   (exact ck)
  ·(exact ck)
 ·have hb : (b == b2) = false := by simpa using hsame
  have hne : ngB x ≠ ngB y := by rw [← hn, ← hn2]; exact hsame
  by_cases hge : ab y ≤ ab x
  ·have E1 := Lib.hid (show mkW b (ab x - ab y) = v by rw [hn, add_other hne hge, E.out])
   have P1 := Lib.hid (show ab x + -1 * ab y = ab x - ab y by omega)
   have HG := Lib.hid hge
   have hcm : ¬ cmpI (ab x) (ab y) < 0 := by
    unfold cmpI
    split
    ·omega
    ·split <;> omega
   have T3 := fun (W : World) (h1 : Wx W b a n c x) (h2 : Wx W b2 a2 n2 c2 y) => Lib.hid (compareSizes_any b b2 a a2 n c n2 c2 x y W h1 h2 (by omega) (by omega))
   generalize cmpI (ab x) (ab y) = cm at *
   clear hn hn2 hne hge hsame
   have tok1 := trivial
   have tok2 := trivial
   go_enter Tryz.func80, Tryz.ntmps80
   go_upto_region 1 with (fail)
   refine chk (fun W => Below w.heap.size w W ∧ W.heap[w.heap.size]? = some (.cells #[.bool b, .slice a n c] 88 (0, 0)) ∧ W.heap[w.heap.size + 1]? = some (.cells #[.bool b2, .slice a2 n2 c2] 88 (0, 0)) ∧ W.heap[w.heap.size + 1 + 1]? = some (.cells #[.bool false, .slice none 0 0] 88 (0, 0)) ∧ Wx W b a n c x ∧ Wx W b2 a2 n2 c2 y) (by refine ⟨?_, ?_, ?_, ?_, ?_, ?_⟩ <;> (exact ck)) ?_
   try clear hs
   try clear hs2
   rintro w1 ⟨hB1, qa, qb, qc, hs', hs2'⟩
   obtain ⟨qj, qk, xr, zo⟩ := bk2 qa
   replace qa := Lib.hid qa
   obtain ⟨qp, qq, xt, zp⟩ := bk2 qb
   replace qb := Lib.hid qb
   obtain ⟨qu, qw, xu, zq⟩ := bk2 qc
   replace qc := Lib.hid qc
   have hs := hs'
   clear hs'
   have hs2 := hs2'
   clear hs2'
   go_wp2_with (first | (have _t := tok2; go_at_call 96; (with_reducible refine ((T3 _ hs hs2).out).mono ?_); rintro e w2 ⟨rfl, hb2⟩; clear tok2 _t; have hz2 := hb2.size; (try simp only [sA, sB, sC, sD] at hz2); (try (obtain ⟨xj, xk, zd⟩ := cf2 hb2 (w.heap.size); simp [go_sem, *] at xj xk zd)); (try have ji : w.heap.size < w2.heap.size := by omega); (try (obtain ⟨xl, xm, ze⟩ := cf2 hb2 (w.heap.size + 1); simp [go_sem, *] at xl xm ze)); (try have jj : w.heap.size + 1 < w2.heap.size := by omega); (try (obtain ⟨xp, xq, zf⟩ := cf2 hb2 (w.heap.size + 1 + 1); simp [go_sem, *] at xp xq zf)); (try have jk : w.heap.size + 1 + 1 < w2.heap.size := by omega); (try clear zi zj jl); (try clear jm); (try clear zk zl jn); (try clear jo); (try clear zm zn jp); (try clear jq)))
   have qg := (hb2.block (w.heap.size) (blk_lt' qa.out)).trans qa.out
   clear qj qk xr qa
   obtain ⟨qr, qt, xz, zu⟩ := bk2 qg
   replace qg := Lib.hid qg
   have qh := (hb2.block (w.heap.size + 1) (blk_lt' qb.out)).trans qb.out
   clear qp qq xt qb
   obtain ⟨qz, xa, za, zv⟩ := bk2 qh
   replace qh := Lib.hid qh
   have qf := (hb2.block (w.heap.size + 1 + 1) (blk_lt' qc.out)).trans qc.out
   clear qu qw xu qc
   obtain ⟨xb, xc, zb, zw⟩ := bk2 qf
   replace qf := Lib.hid qf
   replace hs := hs.below hb2
   replace hs2 := hs2.below hb2
   have hB2 : Below w.heap.size w w2 := below_via hb2 (by assumption) (by first | exact hB1.size | go_size)
   refine wp_open (n := 8) (by kernel_rfl) (by kernel_rfl) (by kernel_rfl) (by kernel_rfl) ?_
   simp only [List.take_succ_cons, List.take_zero]
   apply wpS_quiet
   ·intro γ W hW hp
    refine ⟨rfl, ?_⟩
    go_big_quiet_op
    first | exact rfl
   ·exact locS_const _
   try simp only [Act.put, List.setIfInBounds_toArray, List.set_cons_succ, List.set_cons_zero, Nat.reduceAdd]
   apply wpS_quiet
   ·intro γ W hW hp
    have hs := hW.size
    (try simp only [sA, sB, sC, sD] at hs)
    have xe := fun x => (xcA hW (w.heap.size) 0 (by first | omega | go_size) x).trans qr
    have xf := fun x => (xcA hW (w.heap.size) 1 (by first | omega | go_size) x).trans qt
    clear hW hp
    refine ⟨rfl, ?_⟩
    go_big_quiet_op
    first | exact rfl
   ·exact locS_const _
   try simp only [Act.put, List.setIfInBounds_toArray, List.set_cons_succ, List.set_cons_zero, Nat.reduceAdd]
   apply wpS_quiet
   ·intro γ W hW hp
    refine ⟨rfl, ?_⟩
    go_big_quiet_op
    first | exact rfl
   ·exact locS_const _
   try simp only [Act.put, List.setIfInBounds_toArray, List.set_cons_succ, List.set_cons_zero, Nat.reduceAdd]
   apply wpS_quiet
   ·intro γ W hW hp
    have hs := hW.size
    (try simp only [sA, sB, sC, sD] at hs)
    have xe := fun x => (xcA hW (w.heap.size) 0 (by first | omega | go_size) x).trans qr
    have xf := fun x => (xcA hW (w.heap.size) 1 (by first | omega | go_size) x).trans qt
    clear hW hp
    refine ⟨rfl, ?_⟩
    go_big_quiet_op
    first | exact rfl
   ·exact locS_const _
   try simp only [Act.put, List.setIfInBounds_toArray, List.set_cons_succ, List.set_cons_zero, Nat.reduceAdd]
   apply wpS_quiet
   ·intro γ W hW hp
    refine ⟨rfl, ?_⟩
    go_big_quiet_op
    first | exact rfl
   ·exact locS_const _
   try simp only [Act.put, List.setIfInBounds_toArray, List.set_cons_succ, List.set_cons_zero, Nat.reduceAdd]
   apply wpS_quiet
   ·intro γ W hW hp
    have hs := hW.size
    (try simp only [sA, sB, sC, sD] at hs)
    have xe := fun x => (xcA hW (w.heap.size + 1) 0 (by first | omega | go_size) x).trans qz
    have xf := fun x => (xcA hW (w.heap.size + 1) 1 (by first | omega | go_size) x).trans xa
    clear hW hp
    refine ⟨rfl, ?_⟩
    go_big_quiet_op
    first | exact rfl
   ·exact locS_const _
   try simp only [Act.put, List.setIfInBounds_toArray, List.set_cons_succ, List.set_cons_zero, Nat.reduceAdd]
   apply wpS_open (openD w.heap.size (ab x - ab y) 90001)
   ·intro γ W hW hp
    refine ⟨rfl, ?_⟩
    go_simp
    refine plainNew rfl ?_
    exact open_D (TC W (-1) _ (hs.below hW) (hs2.below hW) hl hl2 (.inr rfl) (fun e => HG.out) P1.out) (by (have := hW.size; (try simp only [sA, sB, sC, sD] at this); omega))
   try simp only [Act.put, List.setIfInBounds_toArray, List.set_cons_succ, List.set_cons_zero, Nat.reduceAdd]
   apply wpS_open (openW w.heap.size v)
   ·intro γ W hW hp
    have xg := hp _ (mR _) (by kernel_rfl)
    dsimp only at xg
    refine ⟨rfl, ?_⟩
    go_simp
    refine plainNew rfl ?_
    obtain ⟨a6, n6, c6, zs6, e6, h6, d6, v6, m6, _⟩ := xg
    rw [e6]
    exact open_W (TM _ _ _ _ _ _ _ _ h6 d6 v6 (by omega) E1.out) (by (have := hW.size; (try simp only [sA, sB, sC, sD] at this); omega))
   try simp only [Act.put, List.setIfInBounds_toArray, List.set_cons_succ, List.set_cons_zero, Nat.reduceAdd]
   apply wpS_end
   intro γ w3 hb3 hG3 hA3
   have zx := hG3 _ (mL _ (mR _))
   dsimp only at zx
   have zy := hG3 _ (mR _)
   dsimp only at zy
   clear hG3 hA3
   simp only [List.drop_succ_cons, List.drop_zero]
   have hz3 := hb3.size
   (try simp only [sA, sB, sC, sD] at hz3)
   obtain ⟨b7, a7, n7, c7, e7, h7, f7⟩ := zy
   simp only [e7]
   clear e7 zx
   have ql := (hb3.block (w.heap.size) (blk_lt' qg.out)).trans qg.out
   clear qr qt xz qg
   obtain ⟨xh, xi, zz, jr⟩ := bk2 ql
   replace ql := Lib.hid ql
   have qm := (hb3.block (w.heap.size + 1) (blk_lt' qh.out)).trans qh.out
   clear qz xa za qh
   obtain ⟨xv, xw, jc, jt⟩ := bk2 qm
   replace qm := Lib.hid qm
   have qi := (hb3.block (w.heap.size + 1 + 1) (blk_lt' qf.out)).trans qf.out
   clear xb xc zb qf
   obtain ⟨xx, xy, jd, ju⟩ := bk2 qi
   replace qi := Lib.hid qi
   replace hs := hs.below hb3
   replace hs2 := hs2.below hb3
   have hB3 : Below w.heap.size w w3 := below_via hb3 (by assumption) (by first | exact hB2.size | go_size)
   go_wp2_with fail
   refine bodyPost_ret (v := .agg #[.bool b7, .slice a7 n7 c7]) (by simp [results, Tryz.results80, go_sem, xx, xy]) rfl ⟨_, _, _, _, rfl, ?_, f7, ?_⟩
   ·have HO := qi.out
    (exact ck)
   ·(exact ck)
  ·have E1 := Lib.hid (show mkW b2 (ab y - ab x) = v by rw [hn2, add_other (fun e => hne e.symm) (by omega), Int.add_comm, E.out])
   have P1 := Lib.hid (show ab y + -1 * ab x = ab y - ab x by omega)
   have HG := Lib.hid (show ab x ≤ ab y by omega)
   have hcm : cmpI (ab x) (ab y) < 0 := by rw [cmp_lt (by omega)]; omega
   have T3 := fun (W : World) (h1 : Wx W b a n c x) (h2 : Wx W b2 a2 n2 c2 y) => Lib.hid (compareSizes_any b b2 a a2 n c n2 c2 x y W h1 h2 (by omega) (by omega))
   generalize cmpI (ab x) (ab y) = cm at *
   clear hn hn2 hne hge hsame
   have tok1 := trivial
   have tok2 := trivial
   go_enter Tryz.func80, Tryz.ntmps80
   go_upto_region 1 with (fail)
   refine chk (fun W => Below w.heap.size w W ∧ W.heap[w.heap.size]? = some (.cells #[.bool b, .slice a n c] 88 (0, 0)) ∧ W.heap[w.heap.size + 1]? = some (.cells #[.bool b2, .slice a2 n2 c2] 88 (0, 0)) ∧ W.heap[w.heap.size + 1 + 1]? = some (.cells #[.bool false, .slice none 0 0] 88 (0, 0)) ∧ Wx W b a n c x ∧ Wx W b2 a2 n2 c2 y) (by refine ⟨?_, ?_, ?_, ?_, ?_, ?_⟩ <;> (exact ck)) ?_
   try clear hs
   try clear hs2
   rintro w1 ⟨hB1, qa, qb, qc, hs', hs2'⟩
   obtain ⟨qj, qk, xr, zo⟩ := bk2 qa
   replace qa := Lib.hid qa
   obtain ⟨qp, qq, xt, zp⟩ := bk2 qb
   replace qb := Lib.hid qb
   obtain ⟨qu, qw, xu, zq⟩ := bk2 qc
   replace qc := Lib.hid qc
   have hs := hs'
   clear hs'
   have hs2 := hs2'
   clear hs2'
   go_wp2_with (first | (have _t := tok2; go_at_call 96; (with_reducible refine ((T3 _ hs hs2).out).mono ?_); rintro e w2 ⟨rfl, hb2⟩; clear tok2 _t; have hz2 := hb2.size; (try simp only [sA, sB, sC, sD] at hz2); (try (obtain ⟨xj, xk, zd⟩ := cf2 hb2 (w.heap.size); simp [go_sem, *] at xj xk zd)); (try have ji : w.heap.size < w2.heap.size := by omega); (try (obtain ⟨xl, xm, ze⟩ := cf2 hb2 (w.heap.size + 1); simp [go_sem, *] at xl xm ze)); (try have jj : w.heap.size + 1 < w2.heap.size := by omega); (try (obtain ⟨xp, xq, zf⟩ := cf2 hb2 (w.heap.size + 1 + 1); simp [go_sem, *] at xp xq zf)); (try have jk : w.heap.size + 1 + 1 < w2.heap.size := by omega); (try clear zi zj jl); (try clear jm); (try clear zk zl jn); (try clear jo); (try clear zm zn jp); (try clear jq)))
   have qg := (hb2.block (w.heap.size) (blk_lt' qa.out)).trans qa.out
   clear qj qk xr qa
   obtain ⟨qr, qt, xz, zu⟩ := bk2 qg
   replace qg := Lib.hid qg
   have qh := (hb2.block (w.heap.size + 1) (blk_lt' qb.out)).trans qb.out
   clear qp qq xt qb
   obtain ⟨qz, xa, za, zv⟩ := bk2 qh
   replace qh := Lib.hid qh
   have qf := (hb2.block (w.heap.size + 1 + 1) (blk_lt' qc.out)).trans qc.out
   clear qu qw xu qc
   obtain ⟨xb, xc, zb, zw⟩ := bk2 qf
   replace qf := Lib.hid qf
   replace hs := hs.below hb2
   replace hs2 := hs2.below hb2
   have hB2 : Below w.heap.size w w2 := below_via hb2 (by assumption) (by first | exact hB1.size | go_size)
   replace qg := qg.out
   replace qh := qh.out
   replace qf := qf.out
   refine chk (fun W => Below w.heap.size w W ∧ W.heap[w.heap.size]? = some (.cells #[.bool b2, .slice a2 n2 c2] 88 (0, 0)) ∧ W.heap[w.heap.size + 1]? = some (.cells #[.bool b, .slice a n c] 88 (0, 0)) ∧ W.heap[w.heap.size + 1 + 1]? = some (.cells #[.bool false, .slice none 0 0] 88 (0, 0)) ∧ Wx W b a n c x ∧ Wx W b2 a2 n2 c2 y) (by refine ⟨?_, ?_, ?_, ?_, ?_, ?_⟩ <;> (exact ck)) ?_
   try clear hs
   try clear hs2
   clear qr qt xz qg
   clear qz xa za qh
   clear xb xc zb qf
   clear hB2
   rintro w3 ⟨hB3, ql, qm, qi, hs', hs2'⟩
   obtain ⟨xh, xi, zz, jr⟩ := bk2 ql
   replace ql := Lib.hid ql
   obtain ⟨xv, xw, jc, jt⟩ := bk2 qm
   replace qm := Lib.hid qm
   obtain ⟨xx, xy, jd, ju⟩ := bk2 qi
   replace qi := Lib.hid qi
   have hs := hs'
   clear hs'
   have hs2 := hs2'
   clear hs2'
   refine wp_open (n := 8) (by kernel_rfl) (by kernel_rfl) (by kernel_rfl) (by kernel_rfl) ?_
   simp only [List.take_succ_cons, List.take_zero]
   apply wpS_quiet
   ·intro γ W hW hp
    refine ⟨rfl, ?_⟩
    go_big_quiet_op
    first | exact rfl
   ·exact locS_const _
   try simp only [Act.put, List.setIfInBounds_toArray, List.set_cons_succ, List.set_cons_zero, Nat.reduceAdd]
   apply wpS_quiet
   ·intro γ W hW hp
    have hs := hW.size
    (try simp only [sA, sB, sC, sD] at hs)
    have xe := fun x => (xcA hW (w.heap.size) 0 (by first | omega | go_size) x).trans xh
    have xf := fun x => (xcA hW (w.heap.size) 1 (by first | omega | go_size) x).trans xi
    clear hW hp
    refine ⟨rfl, ?_⟩
    go_big_quiet_op
    first | exact rfl
   ·exact locS_const _
   try simp only [Act.put, List.setIfInBounds_toArray, List.set_cons_succ, List.set_cons_zero, Nat.reduceAdd]
   apply wpS_quiet
   ·intro γ W hW hp
    refine ⟨rfl, ?_⟩
    go_big_quiet_op
    first | exact rfl
   ·exact locS_const _
   try simp only [Act.put, List.setIfInBounds_toArray, List.set_cons_succ, List.set_cons_zero, Nat.reduceAdd]
   apply wpS_quiet
   ·intro γ W hW hp
    have hs := hW.size
    (try simp only [sA, sB, sC, sD] at hs)
    have xe := fun x => (xcA hW (w.heap.size) 0 (by first | omega | go_size) x).trans xh
    have xf := fun x => (xcA hW (w.heap.size) 1 (by first | omega | go_size) x).trans xi
    clear hW hp
    refine ⟨rfl, ?_⟩
    go_big_quiet_op
    first | exact rfl
   ·exact locS_const _
   try simp only [Act.put, List.setIfInBounds_toArray, List.set_cons_succ, List.set_cons_zero, Nat.reduceAdd]
   apply wpS_quiet
   ·intro γ W hW hp
    refine ⟨rfl, ?_⟩
    go_big_quiet_op
    first | exact rfl
   ·exact locS_const _
   try simp only [Act.put, List.setIfInBounds_toArray, List.set_cons_succ, List.set_cons_zero, Nat.reduceAdd]
   apply wpS_quiet
   ·intro γ W hW hp
    have hs := hW.size
    (try simp only [sA, sB, sC, sD] at hs)
    have xe := fun x => (xcA hW (w.heap.size + 1) 0 (by first | omega | go_size) x).trans xv
    have xf := fun x => (xcA hW (w.heap.size + 1) 1 (by first | omega | go_size) x).trans xw
    clear hW hp
    refine ⟨rfl, ?_⟩
    go_big_quiet_op
    first | exact rfl
   ·exact locS_const _
   try simp only [Act.put, List.setIfInBounds_toArray, List.set_cons_succ, List.set_cons_zero, Nat.reduceAdd]
   apply wpS_open (openD w.heap.size (ab y - ab x) 90001)
   ·intro γ W hW hp
    refine ⟨rfl, ?_⟩
    go_simp
    refine plainNew rfl ?_
    exact open_D (TC W (-1) _ (hs2.below hW) (hs.below hW) hl2 hl (.inr rfl) (fun e => HG.out) P1.out) (by (have := hW.size; (try simp only [sA, sB, sC, sD] at this); omega))
   try simp only [Act.put, List.setIfInBounds_toArray, List.set_cons_succ, List.set_cons_zero, Nat.reduceAdd]
   apply wpS_open (openW w.heap.size v)
   ·intro γ W hW hp
    have xg := hp _ (mR _) (by kernel_rfl)
    dsimp only at xg
    refine ⟨rfl, ?_⟩
    go_simp
    refine plainNew rfl ?_
    obtain ⟨a6, n6, c6, zs6, e6, h6, d6, v6, m6, _⟩ := xg
    rw [e6]
    exact open_W (TM _ _ _ _ _ _ _ _ h6 d6 v6 (by omega) E1.out) (by (have := hW.size; (try simp only [sA, sB, sC, sD] at this); omega))
   try simp only [Act.put, List.setIfInBounds_toArray, List.set_cons_succ, List.set_cons_zero, Nat.reduceAdd]
   apply wpS_end
   intro γ w4 hb4 hG4 hA4
   have je := hG4 _ (mL _ (mR _))
   dsimp only at je
   have jf := hG4 _ (mR _)
   dsimp only at jf
   clear hG4 hA4
   simp only [List.drop_succ_cons, List.drop_zero]
   have hz4 := hb4.size
   (try simp only [sA, sB, sC, sD] at hz4)
   obtain ⟨b7, a7, n7, c7, e7, h7, f7⟩ := jf
   simp only [e7]
   clear e7 je
   have zg := (hb4.block (w.heap.size) (blk_lt' ql.out)).trans ql.out
   clear xh xi zz ql
   obtain ⟨jv, jw, jz, ya⟩ := bk2 zg
   replace zg := Lib.hid zg
   have zh := (hb4.block (w.heap.size + 1) (blk_lt' qm.out)).trans qm.out
   clear xv xw jc qm
   obtain ⟨jx, jy, yb, yc⟩ := bk2 zh
   replace zh := Lib.hid zh
   have zc := (hb4.block (w.heap.size + 1 + 1) (blk_lt' qi.out)).trans qi.out
   clear xx xy jd qi
   obtain ⟨jg, jh, ye, yf⟩ := bk2 zc
   replace zc := Lib.hid zc
   replace hs := hs.below hb4
   replace hs2 := hs2.below hb4
   have hB4 : Below w.heap.size w w4 := below_via hb4 (by assumption) (by first | exact hB3.size | go_size)
   go_wp2_with fail
   refine bodyPost_ret (v := .agg #[.bool b7, .slice a7 n7 c7]) (by simp [results, Tryz.results80, go_sem, jg, jh]) rfl ⟨_, _, _, _, rfl, ?_, f7, ?_⟩
   ·have HO := zc.out
    (exact ck)
   ·(exact ck)
end Go.Proofs.YtnemnkbcbokafaaGreat
