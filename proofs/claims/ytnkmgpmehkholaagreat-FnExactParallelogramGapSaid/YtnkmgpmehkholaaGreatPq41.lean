/- Lemmas and contracts of functions. No condition. -/
import Derived.Test.YtnkmgpmehkholaaGreatPq24
import Derived.Test.YtnkmgpmehkholaaGreatPq27
import Derived.Test.YtnkmgpmehkholaaGreatPq39
namespace Go.Proofs.YtnkmgpmehkholaaGreat
open Go.RowKit
set_option linter.unusedVariables false
set_option maxHeartbeats 1000000
set_option maxRecDepth 20000
set_option linter.unusedSimpArgs false
attribute [local go_sem] openAt openUpon
def bitsOf : RSt → Int
 | .at p q => bitsZ p q
 | _ => 0
theorem fieldLimbsI (b : Bool) (a : Option Addr) (n c : Nat) (w : World) : (Instr.field 80 (.agg #[.bool b, .slice a n c]) 1).run Tryz.prog w = .ok (.slice a n c) w := by kernel_rfl
def BaRel (w : World) (g : Nat) (st : Nat → RSt) (A B : Int) (n : Nat) (iv : Value) (wr : World) : Prop := ∃ (j : Nat) (p q : Int) (b : Bool) (a : Option Addr) (m c : Nat) (b2 : Bool) (a2 : Option Addr) (m2 c2 : Nat), iv = .int .i64 j ∧ j ≤ n ∧ st j = .at p q ∧ wr.heap[w.heap.size]? = some (.cells #[.int .i64 A, .int .i64 B] 32 (0, 0)) ∧ wr.heap[g]? = some (.cells #[.bool b, .slice a m c, .bool b2, .slice a2 m2 c2] 107 (0, 0)) ∧ Wx wr b a m c p ∧ Wx wr b2 a2 m2 c2 q ∧ Below w.heap.size w wr
theorem bitsAt_any (A B x y e : Int) (n : Nat) (w : World) (hA : -1000 ≤ A ∧ A ≤ 1000) (hBB : -10000 ≤ B ∧ B ≤ 10000) (hcv : coV A B ≠ 0) (hx : -10000 ≤ x ∧ x ≤ 10000) (he : 0 ≤ e ∧ e ≤ 20) (hn : n ≤ 1000) :
  Calls Tryz.prog 92 #[.agg #[.int .i64 A, .int .i64 B], .agg #[.int .i64 x, .int .i64 y, .int .i64 e], .int .i64 n] w fun r w' => r = .returned (.tuple #[.int .i64 (bitsOf (ptSt A B x e n)), .bool (infB (ptSt A B x e n)), .bool (htOk (ptSt A B x e n))]) ∧ Below w.heap.size w w' := by
 have ee := mul_bd (a := e) (b := e) (A := 20) (B := 20) (by omega) (by omega)
 by_cases h0 : e = 0
 ·rw [show ptSt A B x e n = .inf by simp [ptSt, h0], show bitsOf .inf = 0 from rfl, show infB .inf = true from rfl, show htOk .inf = true from rfl]
  subst h0
  go_enter Tryz.func92, Tryz.ntmps92
  go_wp2_with fail
  refine bodyPost_ret (v := .tuple #[.int .i64 0, .bool true, .bool true]) (by simp [results, Tryz.results92, go_sem, *]) rfl ⟨rfl, ?_⟩
  exact bel
 ·have h0' : (e == 0) = false := by simpa using h0
  have S0 := Lib.hid (ptSt_zero (A := A) (B := B) (x := x) h0)
  have SS := Lib.hid (fun k => ptSt_succ (A := A) (B := B) (x := x) h0 k)
  have SK := Lib.hid (fun k => ptSt_ok (A := A) (B := B) hx he k)
  have SI := Lib.hid (fun j (h : ptSt A B x e j = .inf) k hk => ptSt_inf h k hk)
  have SB := Lib.hid (fun j (h : ptSt A B x e j = .bad) k hk => ptSt_bad h k hk)
  generalize hst : ptSt A B x e = st at *
  clear hst
  have hnn : (n : Int) ≤ 1000 := by omega
  have hmx := max_most
  have tok1 := trivial
  have tok2 := trivial
  have tok3 := trivial
  have tok4 := trivial
  have tok5 := trivial
  have tok6 := trivial
  go_enter Tryz.func92, Tryz.ntmps92
  go_upto_region 3 with (fail)
  refine chk (fun W => Below w.heap.size w W ∧ W.heap[w.heap.size]? = some (.cells #[.int .i64 A, .int .i64 B] 32 (0, 0)) ∧ W.heap[w.heap.size + 1]? = some (.cells #[.int .i64 x, .int .i64 y, .int .i64 e] 34 (0, 0))) (by refine ⟨?_, ?_, ?_⟩ <;> (exact ck)) ?_
  rintro w1 ⟨hB1, qn, qo⟩
  obtain ⟨ya, yb, yu, yv⟩ := bk2 qn
  replace qn := Lib.hid qn
  obtain ⟨qq, qr, qt, yw, yx⟩ := bk3 qo
  replace qo := Lib.hid qo
  refine wp_open (n := 11) (by kernel_rfl) (by kernel_rfl) (by kernel_rfl) (by kernel_rfl) ?_
  simp only [List.take_succ_cons, List.take_zero]
  apply wpS_quiet
  ·intro γ W hW hp
   refine ⟨rfl, ?_⟩
   go_big_quiet_op
   first | exact rfl
  ·exact locS_const _
  try simp only [Act.put, List.setIfInBounds_toArray, List.set_cons_succ, List.set_cons_zero, Nat.reduceAdd]
  apply wpS_quiet
  ·intro γ W hW hp
   have hs := hW.size
   (try simp only [sA, sB, sC, sD] at hs)
   have jn := fun x => (xcA hW (w.heap.size + 1) 0 (by first | omega | go_size) x).trans qq
   have jo := fun x => (xcA hW (w.heap.size + 1) 1 (by first | omega | go_size) x).trans qr
   have jp := fun x => (xcA hW (w.heap.size + 1) 2 (by first | omega | go_size) x).trans qt
   clear hW hp
   refine ⟨rfl, ?_⟩
   go_big_quiet_op
   first | exact rfl
  ·exact locS_const _
  try simp only [Act.put, List.setIfInBounds_toArray, List.set_cons_succ, List.set_cons_zero, Nat.reduceAdd]
  apply wpS_open (openW w.heap.size x)
  ·intro γ W hW hp
   refine ⟨rfl, ?_⟩
   go_simp
   refine plainNew rfl ?_
   exact open_W (wholeOf_any x _ (by omega) (by omega)) (by (have := hW.size; (try simp only [sA, sB, sC, sD] at this); omega))
  try simp only [Act.put, List.setIfInBounds_toArray, List.set_cons_succ, List.set_cons_zero, Nat.reduceAdd]
  apply wpS_quiet
  ·intro γ W hW hp
   refine ⟨rfl, ?_⟩
   go_big_quiet_op
   first | exact rfl
  ·exact locS_const _
  try simp only [Act.put, List.setIfInBounds_toArray, List.set_cons_succ, List.set_cons_zero, Nat.reduceAdd]
  apply wpS_quiet
  ·intro γ W hW hp
   have hs := hW.size
   (try simp only [sA, sB, sC, sD] at hs)
   have jn := fun x => (xcA hW (w.heap.size + 1) 0 (by first | omega | go_size) x).trans qq
   have jo := fun x => (xcA hW (w.heap.size + 1) 1 (by first | omega | go_size) x).trans qr
   have jp := fun x => (xcA hW (w.heap.size + 1) 2 (by first | omega | go_size) x).trans qt
   clear hW hp
   refine ⟨rfl, ?_⟩
   go_big_quiet_op
   first | exact rfl
  ·exact locS_const _
  try simp only [Act.put, List.setIfInBounds_toArray, List.set_cons_succ, List.set_cons_zero, Nat.reduceAdd]
  apply wpS_quiet
  ·intro γ W hW hp
   refine ⟨rfl, ?_⟩
   go_big_quiet_op
   first | exact rfl
  ·exact locS_const _
  try simp only [Act.put, List.setIfInBounds_toArray, List.set_cons_succ, List.set_cons_zero, Nat.reduceAdd]
  apply wpS_quiet
  ·intro γ W hW hp
   have hs := hW.size
   (try simp only [sA, sB, sC, sD] at hs)
   have jn := fun x => (xcA hW (w.heap.size + 1) 0 (by first | omega | go_size) x).trans qq
   have jo := fun x => (xcA hW (w.heap.size + 1) 1 (by first | omega | go_size) x).trans qr
   have jp := fun x => (xcA hW (w.heap.size + 1) 2 (by first | omega | go_size) x).trans qt
   clear hW hp
   refine ⟨rfl, ?_⟩
   go_big_quiet_op
   first | exact rfl
  ·exact locS_const _
  try simp only [Act.put, List.setIfInBounds_toArray, List.set_cons_succ, List.set_cons_zero, Nat.reduceAdd]
  apply wpS_quiet
  ·intro γ W hW hp
   refine ⟨rfl, ?_⟩
   go_big_quiet_op
   first | exact rfl
  ·exact locS_const _
  try simp only [Act.put, List.setIfInBounds_toArray, List.set_cons_succ, List.set_cons_zero, Nat.reduceAdd]
  apply wpS_open (openW w.heap.size (e * e))
  ·intro γ W hW hp
   refine ⟨rfl, ?_⟩
   go_simp
   refine plainNew rfl ?_
   exact open_W (wholeOf_any (e * e) _ (by omega) (by omega)) (by (have := hW.size; (try simp only [sA, sB, sC, sD] at this); omega))
  try simp only [Act.put, List.setIfInBounds_toArray, List.set_cons_succ, List.set_cons_zero, Nat.reduceAdd]
  apply wpS_quiet (v := fun γ => Value.agg ((γ 2).cells ++ (γ 8).cells))
  ·intro γ W hW hp
   have yn := hp _ (mL _ (mR _)) (by kernel_rfl)
   dsimp only at yn
   have yo := hp _ (mR _) (by kernel_rfl)
   dsimp only at yo
   obtain ⟨bA, aA, nA, cA, eA, -⟩ := yn
   obtain ⟨bB, aB, nB, cB, eB, -⟩ := yo
   refine ⟨rfl, ?_⟩
   simp only [eA, eB]
   go_big_quiet_op
   simp [Value.cells, eA, eB]
  ·intro γ k g hk
   have vv : updV γ k g 2 = γ 2 := updV_other γ g (fun e => by subst e; exact absurd hk (by rw [show reachB .any _ 100 9 2 = true from by kernel_rfl]; simp))
   have vw : updV γ k g 8 = γ 8 := updV_other γ g (fun e => by subst e; exact absurd hk (by rw [show reachB .any _ 100 9 8 = true from by kernel_rfl]; simp))
   simp only [vv, vw]
  try simp only [Act.put, List.setIfInBounds_toArray, List.set_cons_succ, List.set_cons_zero, Nat.reduceAdd]
  apply wpS_open (newBox _ _ _)
  ·intro γ W hW hp
   refine ⟨rfl, ?_⟩
   go_simp
   exact ⟨⟨⟨_, rfl, hW.size, heap_alloc_new _ _⟩, fun _ => ⟨_, rfl, Nat.le_refl _, by simp⟩⟩, (Below.refl _ _).alloc (Nat.le_refl _) _⟩
  try simp only [Act.put, List.setIfInBounds_toArray, List.set_cons_succ, List.set_cons_zero, Nat.reduceAdd]
  apply wpS_end
  intro γ w2 hb2 hG2 hA2
  have jw := hG2 _ (mL _ (mL _ (mR _)))
  dsimp only at jw
  have jx := hG2 _ (mL _ (mR _))
  dsimp only at jx
  obtain ⟨qu, jq, zf, ze⟩ := hG2 _ (mR _)
  dsimp only at jq zf ze
  have yp := fun o => blk_cell ze o
  have yq := fun o => blk_frozen ze o
  have vy := blk_lt' ze
  have ju : w.heap.size ≠ qu := Nat.ne_of_lt (Nat.lt_of_lt_of_le yv zf)
  have jv : w.heap.size + 1 ≠ qu := Nat.ne_of_lt (Nat.lt_of_lt_of_le yx zf)
  have wc : w.heap.size ≤ qu := Nat.le_trans hB1.size zf
  clear hG2 hA2
  try simp only [jq]
  clear jq
  simp only [List.drop_succ_cons, List.drop_zero]
  have hz2 := hb2.size
  (try simp only [sA, sB, sC, sD] at hz2)
  obtain ⟨b1, a1, n1, c1, e1, h1, -⟩ := jw
  obtain ⟨b2, a2, n2, c2, e2, h2, -⟩ := jx
  simp only [e1, e2]
  clear e1 e2
  have qv := (hb2.block (w.heap.size) (blk_lt' qn.out)).trans qn.out
  clear ya yb yu qn
  obtain ⟨yc, yd, yz, wd⟩ := bk2 qv
  replace qv := Lib.hid qv
  have qw := (hb2.block (w.heap.size + 1) (blk_lt' qo.out)).trans qo.out
  clear qq qr qt yw qo
  obtain ⟨ye, yf, yg, va, wg⟩ := bk3 qw
  replace qw := Lib.hid qw
  have hB2 : Below w.heap.size w w2 := below_via hb2 (by assumption) (by go_size)
  go_upto_region 4 with (fail)
  replace qv := qv.out
  replace qw := qw.out
  refine chk (fun W => Below w.heap.size w W ∧ W.heap[w.heap.size]? = some (.cells #[.int .i64 A, .int .i64 B] 32 (0, 0)) ∧ W.heap[qu]? = some (.cells #[.bool b1, .slice a1 n1 c1, .bool b2, .slice a2 n2 c2] 107 (0, 0)) ∧ Wx W b1 a1 n1 c1 x ∧ Wx W b2 a2 n2 c2 (e * e)) (by refine ⟨?_, ?_, ?_, ?_, ?_⟩ <;> (exact ck)) ?_
  try clear h1
  try clear h2
  clear yc yd yz qv
  clear ye yf yg va qw
  clear hB2
  try clear yp
  try clear yq
  try clear ze
  rintro w3 ⟨hB3, qc, qd, h1', h2'⟩
  obtain ⟨qx, qy, zg, vb⟩ := bk2 qc
  replace qc := Lib.hid qc
  obtain ⟨qz, xc, xd, xe, zh, vc⟩ := bk4 qd
  replace qd := Lib.hid qd
  have h1 := h1'
  clear h1'
  have h2 := h2'
  clear h2'
  have hgw : w.heap.size + 2 ≤ qu := by omega
  generalize qu = g at *
  have HC3 := qc.out
  have HL3 := qd.out
  go_wp2_with fail
  go_loopw [26] (fun iv wr => BaRel w g st A B n iv wr) (fun iv _ => (n - intOf iv).toNat)
  case atStart => exact ⟨0, x, e * e, b1, a1, n1, c1, b2, a2, n2, c2, rfl, by omega, S0.out, HC3, HL3, h1, h2, hB3⟩
  case round =>
   clear HC3 HL3 h1 h2
   clear qx
   clear qy
   clear zg qc
   clear qz
   clear xc
   clear xd
   clear xe
   clear zh qd
   try clear ju
   try clear jv
   obtain ⟨j, p, q, b3, a3, n3, c3, b4, a4, n4, c4, rfl, hj, hst, hC, hL, ux, uz, hbw⟩ := hrel
   have hok := raB_bd (show raB p q = true by have := SK.out j; rw [hst] at this; exact this)
   have hjc : (j : Int) ≤ n := by omega
   by_cases hlt : j < n
   ·have hltc : (j : Int) < n := by omega
    have hdr := dbl_run (SS.out j) hst
    obtain ⟨s, hs⟩ : ∃ v, botZ A B p q = v := ⟨_, rfl⟩
    have TB : ∀ W (b : Bool) (a : Option Addr) (n c : Nat) (b2 : Bool) (a2 : Option Addr) (n2 c2 : Nat), Wx W b a n c p → Wx W b2 a2 n2 c2 q → Calls Tryz.prog 104 #[.agg #[.int .i64 A, .int .i64 B], .agg #[.bool b, .slice a n c, .bool b2, .slice a2 n2 c2]] W (NewW W s) := fun W b a n c b2 a2 n2 c2 g1 g2 => denominatorOf_eq hA hBB g1 g2 hok.1 hok.2.1 hs
    rw [hs] at hdr
    clear hs
    obtain ⟨DB, hDB⟩ : ∃ v, dbl (4 * absI (coV A B)) A B p q = v := ⟨_, rfl⟩
    have TD : ∀ W (b : Bool) (a : Option Addr) (n c : Nat) (b2 : Bool) (a2 : Option Addr) (n2 c2 : Nat), Wx W b a n c p → Wx W b2 a2 n2 c2 q → Calls Tryz.prog 105 #[.agg #[.int .i64 A, .int .i64 B], .agg #[.bool b, .slice a n c, .bool b2, .slice a2 n2 c2]] W (NewRR W DB.1 DB.2.1 DB.2.2) := fun W b a n c b2 a2 n2 c2 g1 g2 => hDB ▸ doubleX_any A B p q b b2 a a2 n c n2 c2 W hA hBB hcv g1 g2 hok.1 hok.2.1
    rw [hDB] at hdr
    clear hDB
    have HDR := Lib.hid hdr
    have HST := Lib.hid hst
    clear hdr hst
    go_upto_region 6 with (fail)
    refine chk (fun W => Below w.heap.size w W ∧ W.heap[w.heap.size]? = some (.cells #[.int .i64 A, .int .i64 B] 32 (0, 0)) ∧ W.heap[g]? = some (.cells #[.bool b3, .slice a3 n3 c3, .bool b4, .slice a4 n4 c4] 107 (0, 0)) ∧ Wx W b3 a3 n3 c3 p ∧ Wx W b4 a4 n4 c4 q) (by refine ⟨?_, ?_, ?_, ?_, ?_⟩ <;> (exact ck)) ?_
    try clear ux
    try clear uz
    clear hB3
    rintro w3 ⟨hB3, qc, qd, ux', uz'⟩
    obtain ⟨qx, qy, zg, vb⟩ := bk2 qc
    replace qc := Lib.hid qc
    obtain ⟨qz, xc, xd, xe, zh, vc⟩ := bk4 qd
    replace qd := Lib.hid qd
    have ux := ux'
    clear ux'
    have uz := uz'
    clear uz'
    clear hC hL
    have hfd := fieldLimbsI
    rcases HDR.out with ⟨s0, hn1, hd⟩ | ⟨s0, hd⟩
    ·have hls := ln_zero.2 s0
     have HN := Lib.hid (SI.out (j + 1) hn1 n (by omega))
     clear s0 hn1 hd
     go_upto_region 7 with (first | (have _t := tok4; go_at_call 104; (with_reducible refine ((TB _ _ _ _ _ _ _ _ _ (ux.below bel) (uz.below bel))).mono ?_); rintro e w4 ⟨b5, a5, n5, c5, rfl, hs5, f5, hb4⟩; clear tok4 _t; have hz4 := hb4.size; (try simp only [sA, sB, sC, sD] at hz4); (try (obtain ⟨kq, ql⟩ := cfAt hb4 (w.heap.size); have qg := kq 0; have qh := kq 1; clear kq; simp [go_sem, *] at qg qh ql)); (try have zk : w.heap.size < w4.heap.size := by omega); (try (obtain ⟨kq, qm⟩ := cfAt hb4 (w.heap.size + 1); have qi := kq 0; have qj := kq 1; have qk := kq 2; clear kq; simp [go_sem, *] at qi qj qk qm)); (try have zm : w.heap.size + 1 < w4.heap.size := by omega); (try clear xh xi zn); (try clear zo); (try clear xj xk xl zp); (try clear zq); (try clear xm xn zr); (try clear zt); (try clear xo xp xq zu); (try clear zv); (try clear xr xt zw); (try clear zx); (try clear xu xv xw zy); (try clear ja); have hn5 := hs5.ln; rw [hls] at hn5; (try subst hn5)))
     have qe := (hb4.block (w.heap.size) (blk_lt' qc.out)).trans qc.out
     clear qx qy zg qc
     obtain ⟨jd, je, jy, vd⟩ := bk2 qe
     replace qe := Lib.hid qe
     have qf := (hb4.block (g) (blk_lt' qd.out)).trans qd.out
     clear qz xc xd xe zh qd
     obtain ⟨jf, jg, jh, ji, jz, vf⟩ := bk4 qf
     replace qf := Lib.hid qf
     replace ux := ux.below hb4
     replace uz := uz.below hb4
     have hB4 : Below w.heap.size w w4 := below_via hb4 (by assumption) (by go_size)
     go_wp2_with fail
     refine bodyPost_ret (v := .tuple #[.int .i64 0, .bool true, .bool true]) (by simp [results, Tryz.results92, go_sem]) rfl ⟨by rw [HN.out]; rfl, ?_⟩
     exact bel
    ·have hls : ln s ≠ 0 := fun e => s0 (ln_zero.1 e)
     go_upto_region 8 with (first | (have _t := tok4; go_at_call 104; (with_reducible refine ((TB _ _ _ _ _ _ _ _ _ (ux.below bel) (uz.below bel))).mono ?_); rintro e w4 ⟨b5, a5, n5, c5, rfl, hs5, f5, hb4⟩; clear tok4 _t; have hz4 := hb4.size; (try simp only [sA, sB, sC, sD] at hz4); (try (obtain ⟨kq, ql⟩ := cfAt hb4 (w.heap.size); have qg := kq 0; have qh := kq 1; clear kq; simp [go_sem, *] at qg qh ql)); (try have zk : w.heap.size < w4.heap.size := by omega); (try (obtain ⟨kq, qm⟩ := cfAt hb4 (w.heap.size + 1); have qi := kq 0; have qj := kq 1; have qk := kq 2; clear kq; simp [go_sem, *] at qi qj qk qm)); (try have zm : w.heap.size + 1 < w4.heap.size := by omega); (try clear xh xi zn); (try clear zo); (try clear xj xk xl zp); (try clear zq); (try clear xm xn zr); (try clear zt); (try clear xo xp xq zu); (try clear zv); (try clear xr xt zw); (try clear zx); (try clear xu xv xw zy); (try clear ja); have hn5 : ((n5 : Int) == 0) = false := by { have := hs5.ln; simp; omega }))
     have qe := (hb4.block (w.heap.size) (blk_lt' qc.out)).trans qc.out
     clear qx qy zg qc
     obtain ⟨jd, je, jy, vd⟩ := bk2 qe
     replace qe := Lib.hid qe
     have qf := (hb4.block (g) (blk_lt' qd.out)).trans qd.out
     clear qz xc xd xe zh qd
     obtain ⟨jf, jg, jh, ji, jz, vf⟩ := bk4 qf
     replace qf := Lib.hid qf
     replace ux := ux.below hb4
     replace uz := uz.below hb4
     have hB4 : Below w.heap.size w w4 := below_via hb4 (by assumption) (by go_size)
     rcases hd with ⟨hn1, rfl⟩ | ⟨p1, q1, hn1, hq1, rfl⟩
     ·have HN := Lib.hid (SB.out (j + 1) hn1 n (by omega))
      clear hn1
      go_upto_region 10 with (first | (have _t := tok5; go_at_call 105; (with_reducible refine ((TD _ _ _ _ _ _ _ _ _ (ux.below bel) (uz.below bel))).mono ?_); rintro e w5 ⟨b6, a6, n6, c6, b7, a7, n7, c7, rfl, vx, vz, f6, f7, hb5⟩; clear tok5 _t; have hz5 := hb5.size; (try simp only [sA, sB, sC, sD] at hz5); (try (obtain ⟨kq, jb⟩ := cfAt hb5 (w.heap.size); have xy := kq 0; have za := kq 1; clear kq; simp [go_sem, *] at xy za jb)); (try have yr : w.heap.size < w5.heap.size := by omega); (try (obtain ⟨kq, jc⟩ := cfAt hb5 (w.heap.size + 1); have zb := kq 0; have zc := kq 1; have zd := kq 2; clear kq; simp [go_sem, *] at zb zc zd jc)); (try have yt : w.heap.size + 1 < w5.heap.size := by omega); (try clear xh xi zn); (try clear zo); (try clear xj xk xl zp); (try clear zq); (try clear xm xn zr); (try clear zt); (try clear xo xp xq zu); (try clear zv); (try clear xr xt zw); (try clear zx); (try clear xu xv xw zy); (try clear ja); (try clear qg qh ql); (try clear zk); (try clear qi qj qk qm); (try clear zm)))
      go_wp2_with fail
      refine bodyPost_ret (v := .tuple #[.int .i64 0, .bool false, .bool false]) (by simp [results, Tryz.results92, go_sem]) rfl ⟨by rw [HN.out]; rfl, ?_⟩
      exact bel
     ·have HN := Lib.hid hn1
      clear hn1
      go_upto_region 11 with (first | (have _t := tok5; go_at_call 105; (with_reducible refine ((TD _ _ _ _ _ _ _ _ _ (ux.below bel) (uz.below bel))).mono ?_); rintro e w5 ⟨b6, a6, n6, c6, b7, a7, n7, c7, rfl, vx, vz, f6, f7, hb5⟩; clear tok5 _t; have hz5 := hb5.size; (try simp only [sA, sB, sC, sD] at hz5); (try (obtain ⟨kq, jb⟩ := cfAt hb5 (w.heap.size); have xy := kq 0; have za := kq 1; clear kq; simp [go_sem, *] at xy za jb)); (try have yr : w.heap.size < w5.heap.size := by omega); (try (obtain ⟨kq, jc⟩ := cfAt hb5 (w.heap.size + 1); have zb := kq 0; have zc := kq 1; have zd := kq 2; clear kq; simp [go_sem, *] at zb zc zd jc)); (try have yt : w.heap.size + 1 < w5.heap.size := by omega); (try clear xh xi zn); (try clear zo); (try clear xj xk xl zp); (try clear zq); (try clear xm xn zr); (try clear zt); (try clear xo xp xq zu); (try clear zv); (try clear xr xt zw); (try clear zx); (try clear xu xv xw zy); (try clear ja); (try clear qg qh ql); (try clear zk); (try clear qi qj qk qm); (try clear zm)))
      have xf := (hb5.block (w.heap.size) (blk_lt' qe.out)).trans qe.out
      clear jd je jy qe
      obtain ⟨yh, yi, vg, wi⟩ := bk2 xf
      replace xf := Lib.hid xf
      have xg := (hb5.block (g) (blk_lt' qf.out)).trans qf.out
      clear jf jg jh ji jz qf
      obtain ⟨yj, yk, yl, ym, vh, wj⟩ := bk4 xg
      replace xg := Lib.hid xg
      replace ux := ux.below hb5
      replace uz := uz.below hb5
      have hB5 : Below w.heap.size w w5 := below_via hb5 (by assumption) (by go_size)
      clear f6 f7
      replace xf := xf.out
      replace xg := xg.out
      refine chk (fun W => Below w.heap.size w W ∧ W.heap[w.heap.size]? = some (.cells #[.int .i64 A, .int .i64 B] 32 (0, 0)) ∧ W.heap[g]? = some (.cells #[.bool b3, .slice a3 n3 c3, .bool b4, .slice a4 n4 c4] 107 (0, 0)) ∧ W.heap[w5.heap.size]? = some (.cells #[.bool b6, .slice a6 n6 c6, .bool b7, .slice a7 n7 c7] 107 (0, 0)) ∧ Wx W b6 a6 n6 c6 p1 ∧ Wx W b7 a7 n7 c7 q1) (by refine ⟨?_, ?_, ?_, ?_, ?_, ?_⟩ <;> (exact ck)) ?_
      try clear vx
      try clear vz
      clear yh yi vg xf
      clear yj yk yl ym vh xg
      clear hB5
      rintro w6 ⟨hB6, zi, zj, jr, vx', vz'⟩
      obtain ⟨vj, vk, wk, wl⟩ := bk2 zi
      replace zi := Lib.hid zi
      obtain ⟨vm, vn, vo, vp, wm, wn⟩ := bk4 zj
      replace zj := Lib.hid zj
      obtain ⟨vq, vr, vt, vu, wq, ws⟩ := bk4 jr
      replace jr := Lib.hid jr
      have vx := vx'
      clear vx'
      have vz := vz'
      clear vz'
      clear TB TD
      have hgo : w.heap.size ≠ g := by omega
      go_wp2_with fail
      go_roundw
      case rel =>
       have r1 := zi.out
       have r2 := zj.out
       (repeat apply Exists.intro)
       refine ⟨⟨j + 1, p1, q1, b6, a6, n6, c6, b7, a7, n7, c7, by go_num, by omega, HN.out, ck, ck, ck, ck, ck⟩, rfl⟩
      case measure => simp [intOf]; omega
   ·obtain rfl : j = n := by omega
    have HST := Lib.hid hst
    have HBZ := Lib.hid (show most (bl (ab p) : Nat) (bl (ab q) : Nat) = bitsZ p q from rfl)
    clear hst
    go_upto_region 13 with (fail)
    refine chk (fun W => Below w.heap.size w W ∧ W.heap[g]? = some (.cells #[.bool b3, .slice a3 n3 c3, .bool b4, .slice a4 n4 c4] 107 (0, 0)) ∧ Wx W b3 a3 n3 c3 p ∧ Wx W b4 a4 n4 c4 q) (by refine ⟨?_, ?_, ?_, ?_⟩ <;> (exact ck)) ?_
    try clear ux
    try clear uz
    clear hB3
    rintro w7 ⟨hB7, jt, ux', uz'⟩
    obtain ⟨jj, jk, jl, jm, wt, wu⟩ := bk4 jt
    replace jt := Lib.hid jt
    have ux := ux'
    clear ux'
    have uz := uz'
    clear uz'
    have TL1 := fun (W : World) (hW : Below w7.heap.size w7 W) => bitLength_any b3 a3 n3 c3 p W (ux.below hW) (by have := ux.ln; omega)
    have TL2 := fun (W : World) (hW : Below w7.heap.size w7 W) => bitLength_any b4 a4 n4 c4 q W (uz.below hW) (by have := uz.ln; omega)
    generalize bl (ab p) = u1 at *
    generalize bl (ab q) = u2 at *
    clear hC hL
    refine wp_open (n := 9) (by kernel_rfl) (by kernel_rfl) (by kernel_rfl) (by kernel_rfl) ?_
    simp only [List.take_succ_cons, List.take_zero]
    apply wpS_quiet
    ·intro γ W hW hp
     refine ⟨rfl, ?_⟩
     go_big_quiet_op
     first | exact rfl
    ·exact locS_const _
    try simp only [Act.put, List.setIfInBounds_toArray, List.set_cons_succ, List.set_cons_zero, Nat.reduceAdd]
    apply wpS_quiet
    ·intro γ W hW hp
     have hs := hW.size
     (try simp only [sA, sB, sC, sD] at hs)
     have jn := fun x => (xcA hW (g) 0 (by first | omega | go_size) x).trans jj
     have jo := fun x => (xcA hW (g) 1 (by first | omega | go_size) x).trans jk
     have jp := fun x => (xcA hW (g) 2 (by first | omega | go_size) x).trans jl
     have vi := fun x => (xcA hW (g) 3 (by first | omega | go_size) x).trans jm
     clear hW hp
     refine ⟨rfl, ?_⟩
     go_big_quiet_op
     first | exact rfl
    ·exact locS_const _
    try simp only [Act.put, List.setIfInBounds_toArray, List.set_cons_succ, List.set_cons_zero, Nat.reduceAdd]
    apply wpS_quiet
    ·intro γ W hW hp
     refine ⟨rfl, ?_⟩
     go_big_quiet_op
     apply Exists.intro
     refine ⟨fun x => ?_, ?_⟩
     ·(first | (go_at_call 106; (with_reducible exact draw_of _ ((TL1 _ (below_via (Over.lies _) (below_via hW bel (by go_size)) (by (have := hW.size; (try simp only [sA, sB, sC, sD] at this); omega))))))) | (go_at_call 106; (with_reducible exact draw_of _ ((TL2 _ (below_via (Over.lies _) (below_via hW bel (by go_size)) (by (have := hW.size; (try simp only [sA, sB, sC, sD] at this); omega))))))))
     exact rfl
    ·exact locS_const _
    try simp only [Act.put, List.setIfInBounds_toArray, List.set_cons_succ, List.set_cons_zero, Nat.reduceAdd]
    apply wpS_quiet
    ·intro γ W hW hp
     refine ⟨rfl, ?_⟩
     go_big_quiet_op
     first | exact rfl
    ·exact locS_const _
    try simp only [Act.put, List.setIfInBounds_toArray, List.set_cons_succ, List.set_cons_zero, Nat.reduceAdd]
    apply wpS_quiet
    ·intro γ W hW hp
     have hs := hW.size
     (try simp only [sA, sB, sC, sD] at hs)
     have jn := fun x => (xcA hW (g) 0 (by first | omega | go_size) x).trans jj
     have jo := fun x => (xcA hW (g) 1 (by first | omega | go_size) x).trans jk
     have jp := fun x => (xcA hW (g) 2 (by first | omega | go_size) x).trans jl
     have vi := fun x => (xcA hW (g) 3 (by first | omega | go_size) x).trans jm
     clear hW hp
     refine ⟨rfl, ?_⟩
     go_big_quiet_op
     first | exact rfl
    ·exact locS_const _
    try simp only [Act.put, List.setIfInBounds_toArray, List.set_cons_succ, List.set_cons_zero, Nat.reduceAdd]
    apply wpS_quiet
    ·intro γ W hW hp
     refine ⟨rfl, ?_⟩
     go_big_quiet_op
     apply Exists.intro
     refine ⟨fun x => ?_, ?_⟩
     ·(first | (go_at_call 106; (with_reducible exact draw_of _ ((TL1 _ (below_via (Over.lies _) (below_via hW bel (by go_size)) (by (have := hW.size; (try simp only [sA, sB, sC, sD] at this); omega))))))) | (go_at_call 106; (with_reducible exact draw_of _ ((TL2 _ (below_via (Over.lies _) (below_via hW bel (by go_size)) (by (have := hW.size; (try simp only [sA, sB, sC, sD] at this); omega))))))))
     exact rfl
    ·exact locS_const _
    try simp only [Act.put, List.setIfInBounds_toArray, List.set_cons_succ, List.set_cons_zero, Nat.reduceAdd]
    apply wpS_quiet
    ·intro γ W hW hp
     refine ⟨rfl, ?_⟩
     go_big_quiet_op
     first | exact rfl
    ·exact locS_const _
    try simp only [Act.put, List.setIfInBounds_toArray, List.set_cons_succ, List.set_cons_zero, Nat.reduceAdd]
    apply wpS_quiet
    ·intro γ W hW hp
     refine ⟨rfl, ?_⟩
     go_big_quiet_op
     first | exact rfl
    ·exact locS_const _
    try simp only [Act.put, List.setIfInBounds_toArray, List.set_cons_succ, List.set_cons_zero, Nat.reduceAdd]
    apply wpS_quiet
    ·intro γ W hW hp
     refine ⟨rfl, ?_⟩
     go_big_quiet_op
     first | exact rfl
    ·exact locS_const _
    try simp only [Act.put, List.setIfInBounds_toArray, List.set_cons_succ, List.set_cons_zero, Nat.reduceAdd]
    apply wpS_end
    intro γ w8 hb8 hG8 hA8
    clear hG8 hA8
    simp only [List.drop_succ_cons, List.drop_zero]
    have hz8 := hb8.size
    (try simp only [sA, sB, sC, sD] at hz8)
    clear TL1 TL2
    go_wp2_with fail
    refine bodyPost_ret (v := .tuple #[.int .i64 (most u1 u2), .bool false, .bool true]) (by simp [results, Tryz.results92, go_sem]) rfl ⟨by rw [HST.out]; change _ = Ending.returned (.tuple #[.int .i64 (bitsZ p q), .bool false, .bool true]); rw [HBZ.out], ?_⟩
    exact bel
end Go.Proofs.YtnkmgpmehkholaaGreat
