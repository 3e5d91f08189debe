/- Lemmas and contracts of functions. No condition. -/
import Derived.Test.YtnkmgpmehkholaaGreatPq24
import Derived.Test.YtnkmgpmehkholaaGreatPq39
namespace Go.Proofs.YtnkmgpmehkholaaGreat
open Go.RowKit
set_option linter.unusedVariables false
set_option maxHeartbeats 1000000
set_option maxRecDepth 20000
set_option linter.unusedSimpArgs false
attribute [local go_sem] openAt openUpon
/-- a contract whose values are a row of ratios along the states and whether infinity was reached -/
def NewL (w : World) (T : TypeId) (st : Nat → RSt) (n : Nat) (e : Ending) (w' : World) : Prop := ∃ v zs B, e = .returned (.tuple #[v, .bool (infB (st n))]) ∧ RowRt w' B T v zs ∧ Along st zs ∧ zs.length ≤ n + 1 ∧ (atB (st n) = true ↔ zs.length = n + 1) ∧ Below w.heap.size w w'
theorem infoRatio : (Tryz.prog.info? 107).map (fun i => (i.zero, i.size, i.bytes)) = some (some (.agg #[.bool false, .slice none 0 0, .bool false, .slice none 0 0]), 4, 64) := by kernel_rfl
theorem fieldLimbs (b : Bool) (a : Option Addr) (n c : Nat) (w : World) : (Instr.field 80 (.agg #[.bool b, .slice a n c]) 1).run Tryz.prog w = .ok (.slice a n c) w := by kernel_rfl
def CrRel (w : World) (st : Nat → RSt) (A B : Int) (n : Nat) (nv ov : Value) (wr : World) : Prop := ∃ (j : Nat) (zs : List (Int × Int)), nv = .int .i64 ((n : Int) - j) ∧ j ≤ n ∧ zs.length = j + 1 ∧ RowRt wr (w.heap.size + 2) 107 ov zs ∧ Along st zs ∧ wr.heap[w.heap.size]? = some (.cells #[.int .i64 A, .int .i64 B] 32 (0, 0)) ∧ Below w.heap.size w wr
theorem chRatios_any (A B x y e : Int) (n : Nat) (w : World) (hA : -1000 ≤ A ∧ A ≤ 1000) (hBB : -10000 ≤ B ∧ B ≤ 10000) (hcv : coV A B ≠ 0) (hx : -10000 ≤ x ∧ x ≤ 10000) (he : 0 ≤ e ∧ e ≤ 20) (hn : n ≤ 1000) :
  Calls Tryz.prog 82 #[.agg #[.int .i64 A, .int .i64 B], .agg #[.int .i64 x, .int .i64 y, .int .i64 e], .int .i64 n] w (NewL w 107 (ptSt A B x e) n) := by
 have ee := mul_bd (a := e) (b := e) (A := 20) (B := 20) (by omega) (by omega)
 by_cases h0 : e = 0
 ·have hI := Lib.hid (show infB (ptSt A B x e n) = true by simp [ptSt, h0, infB])
  have hA0 := Lib.hid (show atB (ptSt A B x e n) = false by simp [ptSt, h0, atB])
  subst h0
  go_enter Tryz.func82, Tryz.ntmps82
  go_wp2_with fail
  go_ret2
  refine ⟨.slice none 0 0, [], 0, by rw [hI.out]; rfl, RowRt.nil _ _ _, fun i hi => absurd hi (by simp), by simp, by rw [hA0.out]; simp, ?_⟩
  exact bel
 ·have h0' : (e == 0) = false := by simpa using h0
  have S0 := Lib.hid (ptSt_zero (A := A) (B := B) (x := x) h0)
  have SS := Lib.hid (fun k => ptSt_succ (A := A) (B := B) (x := x) h0 k)
  have SK := Lib.hid (fun k => ptSt_ok (A := A) (B := B) hx he k)
  have SI := Lib.hid (fun j (h : ptSt A B x e j = .inf) k hk => ptSt_inf h k hk)
  have SB := Lib.hid (fun j (h : ptSt A B x e j = .bad) k hk => ptSt_bad h k hk)
  generalize hst : ptSt A B x e = st at *
  clear hst
  have hnn : (n : Int) ≤ 1000 := by omega
  obtain ⟨i0, hi, iz0, iz1, iz2⟩ := info_parts infoRatio
  have tok1 := trivial
  have tok2 := trivial
  have tok3 := trivial
  have tok4 := trivial
  have tok5 := trivial
  go_enter Tryz.func82, Tryz.ntmps82
  go_wp2_with (first | (have _t := tok1; go_at_call 95; (with_reducible refine ((xdOf_any x (e * e) _ (by omega) (by omega))).mono ?_); rintro e w1 ⟨b1, a1, n1, c1, b2, a2, n2, c2, rfl, h1, h2, hb1⟩; clear tok1 _t; have hz1 := hb1.size; (try simp only [sA, sB, sC, sD] at hz1); (try (obtain ⟨kq, qx⟩ := cfAt hb1 (w.heap.size); have qk := kq 0; have ql := kq 1; clear kq; simp [go_sem, *] at qk ql qx)); (try have ze : w.heap.size < w1.heap.size := by omega); (try (obtain ⟨kq, qy⟩ := cfAt hb1 (w.heap.size + 1); have qm := kq 0; have qn := kq 1; have qo := kq 2; clear kq; simp [go_sem, *] at qm qn qo qy)); (try have zf : w.heap.size + 1 < w1.heap.size := by omega)))
  have hz1 := hb1.size
  simp only [World.size_alloc] at hz1
  have HC1 := (hb1.block (w.heap.size) (by simp; omega)).trans (bx_old (heap_alloc_new w _) _)
  go_loopw [2, 8] (fun nv ov wr => CrRel w st A B n nv ov wr) (fun nv _ _ => (intOf nv).toNat)
  case atStart => exact ⟨0, [(x, e * e)], by simp, by omega, rfl, RowRt.one h1 h2 (by omega), fun i hi => (by obtain rfl : i = 0 := (by simpa using hi); exact S0.out), bx_old HC1 _, bel⟩
  case round =>
   clear hb1 h1 h2 HC1
   obtain ⟨j, zs, rfl, hj, hl, hrow, hal, hC, hbw⟩ := hrel
   by_cases hlt : j < n
   ·obtain ⟨g, cap, b3, a3, n3, c3, b4, a4, n4, c4, hv, hcap, hcm, hBg, hgl, k0, k1, k2, k3, ux, uz⟩ := hrow.at (i := j) (by omega)
    rw [hl] at hv hcap
    subst hv
    have hst := hal j (by omega)
    generalize (zs.getD j (0, 0)).1 = p at *
    generalize (zs.getD j (0, 0)).2 = q at *
    have hok := raB_bd (show raB p q = true by have := SK.out j; rw [hst] at this; exact this)
    have hdr := dbl_run (SS.out j) hst
    have HR := Lib.hid hrow
    have HL := Lib.hid hl
    have HA := Lib.hid hal
    have HCW := Lib.hid hC
    have HST := Lib.hid hst
    have kC0 : wr.cell? ⟨w.heap.size, 0, none⟩ = some (.int .i64 A) := blk_cell hC 0
    have kC1 : wr.cell? ⟨w.heap.size, 1, none⟩ = some (.int .i64 B) := blk_cell hC 1
    have fC := fun o => blk_frozen hC o
    have lC := blk_lt' hC
    clear hrow hl hal hC hst
    have hlt1 : 0 < (n : Int) - j := by omega
    obtain ⟨s, hs⟩ : ∃ v, botZ A B p q = v := ⟨_, rfl⟩
    have TB : ∀ W (b : Bool) (a : Option Addr) (n c : Nat) (b2 : Bool) (a2 : Option Addr) (n2 c2 : Nat), Wx W b a n c p → Wx W b2 a2 n2 c2 q → Calls Tryz.prog 96 #[.agg #[.int .i64 A, .int .i64 B], .agg #[.bool b, .slice a n c, .bool b2, .slice a2 n2 c2]] W (NewW W s) := fun W b a n c b2 a2 n2 c2 g1 g2 => hs ▸ xdBottom_any A B p q b b2 a a2 n c n2 c2 W hA hBB g1 g2 hok.1 hok.2.1
    rw [hs] at hdr
    clear hs
    obtain ⟨DB, hDB⟩ : ∃ v, dbl (4 * absI (coV A B)) A B p q = v := ⟨_, rfl⟩
    have TD : ∀ W (b : Bool) (a : Option Addr) (n c : Nat) (b2 : Bool) (a2 : Option Addr) (n2 c2 : Nat), Wx W b a n c p → Wx W b2 a2 n2 c2 q → Calls Tryz.prog 97 #[.agg #[.int .i64 A, .int .i64 B], .agg #[.bool b, .slice a n c, .bool b2, .slice a2 n2 c2]] W (NewRR W DB.1 DB.2.1 DB.2.2) := fun W b a n c b2 a2 n2 c2 g1 g2 => hDB ▸ xdDouble_any A B p q b b2 a a2 n c n2 c2 W hA hBB hcv g1 g2 hok.1 hok.2.1
    rw [hDB] at hdr
    clear hDB
    have HDR := Lib.hid hdr
    clear hdr
    go_upto_region 7 with (fail)
    have HC0 := HCW.out
    refine chk (fun W => Below w.heap.size w W ∧ W.heap[w.heap.size]? = some (.cells #[.int .i64 A, .int .i64 B] 32 (0, 0)) ∧ W.heap[wr.heap.size]? = some (.cells #[.bool b3, .slice a3 n3 c3, .bool b4, .slice a4 n4 c4] 107 (0, 0)) ∧ Wx W b3 a3 n3 c3 p ∧ Wx W b4 a4 n4 c4 q ∧ Below wr.heap.size wr W) (by refine ⟨?_, ?_, ?_, ?_, ?_, ?_⟩ <;> (exact ck)) ?_
    try clear ux
    try clear uz
    rintro w2 ⟨hB2, xp, xq, ux', uz', hbr⟩
    obtain ⟨jp, jq, jz, yk⟩ := bk2 xp
    replace xp := Lib.hid xp
    obtain ⟨jr, jt, ju, jv, ya, yl⟩ := bk4 xq
    replace xq := Lib.hid xq
    have ux := ux'
    clear ux'
    have uz := uz'
    clear uz'
    clear HC0
    have hfd := fieldLimbs
    rcases HDR.out with ⟨s0, hn1, hd⟩ | ⟨s0, hd⟩
    ·have hls := ln_zero.2 s0
     have HN := Lib.hid (SI.out (j + 1) hn1 n (by omega))
     clear s0 hn1 hd
     go_upto_region 8 with (first | (have _t := tok3; go_at_call 96; (with_reducible refine ((TB _ _ _ _ _ _ _ _ _ (ux.below bel) (uz.below bel))).mono ?_); rintro e w3 ⟨b5, a5, n5, c5, rfl, hs5, f5, hb3⟩; clear tok3 _t; have hz3 := hb3.size; (try simp only [sA, sB, sC, sD] at hz3); (try (obtain ⟨kq, qz⟩ := cfAt hb3 (w.heap.size); have qq := kq 0; have qr := kq 1; clear kq; simp [go_sem, *] at qq qr qz)); (try have zo : w.heap.size < w3.heap.size := by omega); (try (obtain ⟨kq, xc⟩ := cfAt hb3 (w.heap.size + 1); have qt := kq 0; have qu := kq 1; have qv := kq 2; clear kq; simp [go_sem, *] at qt qu qv xc)); (try have zp : w.heap.size + 1 < w3.heap.size := by omega); (try (obtain ⟨kq, qw⟩ := cfAt hb3 (wr.heap.size); have qe := kq 0; have qf := kq 1; have qg := kq 2; have qh := kq 3; clear kq; simp [go_sem, *] at qe qf qg qh qw)); (try have zg : wr.heap.size < w3.heap.size := by omega); (try clear qk ql qx); (try clear ze); (try clear qm qn qo qy); (try clear zf); (try clear xd xe xf xg zh); (try clear zi); (try clear xr xt zq); (try clear zr); (try clear xu xv xw zt); (try clear zu); (try clear xh xi xj xk zj); (try clear zk); have hn5 := hs5.ln; rw [hls] at hn5; (try subst hn5)))
     have hbr3 := below_via hb3 hbr (by have := hbr.size; omega)
     go_wp2_with fail
     go_ret2
     refine ⟨.slice (some ⟨g, 0, none⟩) (j + 1) cap, zs, w.heap.size + 2, by rw [HN.out]; rfl, HR.out.below hbr3, HA.out, by have := HL.out; omega, by rw [HN.out]; have := HL.out; simp [atB]; omega, ?_⟩
     exact bel
    ·have hls : ln s ≠ 0 := fun e => s0 (ln_zero.1 e)
     go_upto_region 9 with (first | (have _t := tok3; go_at_call 96; (with_reducible refine ((TB _ _ _ _ _ _ _ _ _ (ux.below bel) (uz.below bel))).mono ?_); rintro e w3 ⟨b5, a5, n5, c5, rfl, hs5, f5, hb3⟩; clear tok3 _t; have hz3 := hb3.size; (try simp only [sA, sB, sC, sD] at hz3); (try (obtain ⟨kq, qz⟩ := cfAt hb3 (w.heap.size); have qq := kq 0; have qr := kq 1; clear kq; simp [go_sem, *] at qq qr qz)); (try have zo : w.heap.size < w3.heap.size := by omega); (try (obtain ⟨kq, xc⟩ := cfAt hb3 (w.heap.size + 1); have qt := kq 0; have qu := kq 1; have qv := kq 2; clear kq; simp [go_sem, *] at qt qu qv xc)); (try have zp : w.heap.size + 1 < w3.heap.size := by omega); (try (obtain ⟨kq, qw⟩ := cfAt hb3 (wr.heap.size); have qe := kq 0; have qf := kq 1; have qg := kq 2; have qh := kq 3; clear kq; simp [go_sem, *] at qe qf qg qh qw)); (try have zg : wr.heap.size < w3.heap.size := by omega); (try clear qk ql qx); (try clear ze); (try clear qm qn qo qy); (try clear zf); (try clear xd xe xf xg zh); (try clear zi); (try clear xr xt zq); (try clear zr); (try clear xu xv xw zt); (try clear zu); (try clear xh xi xj xk zj); (try clear zk); have hn5 : ((n5 : Int) == 0) = false := by { have := hs5.ln; simp; omega }))
     have qi := (hb3.block (w.heap.size) (blk_lt' xp.out)).trans xp.out
     clear jp jq jz xp
     obtain ⟨zx, zy, jl, ym⟩ := bk2 qi
     replace qi := Lib.hid qi
     have qj := (hb3.block (wr.heap.size) (blk_lt' xq.out)).trans xq.out
     clear jr jt ju jv ya xq
     obtain ⟨ja, jb, jc, jd, jm, yn⟩ := bk4 qj
     replace qj := Lib.hid qj
     replace ux := ux.below hb3
     replace uz := uz.below hb3
     have hB3 : Below w.heap.size w w3 := below_via hb3 (by assumption) (by go_size)
     have hbr3 := below_via hb3 hbr (by have := hbr.size; omega)
     rcases hd with ⟨hn1, rfl⟩ | ⟨p1, q1, hn1, hq1, rfl⟩
     ·have HN := Lib.hid (SB.out (j + 1) hn1 n (by omega))
      clear hn1
      go_upto_region 11 with (first | (have _t := tok4; go_at_call 97; (with_reducible refine ((TD _ _ _ _ _ _ _ _ _ (ux.below bel) (uz.below bel))).mono ?_); rintro e w4 ⟨b6, a6, n6, c6, b7, a7, n7, c7, rfl, vx, vz, f6, f7, hb4⟩; clear tok4 _t; have hz4 := hb4.size; (try simp only [sA, sB, sC, sD] at hz4); (try (obtain ⟨kq, zv⟩ := cfAt hb4 (w.heap.size); have xy := kq 0; have za := kq 1; clear kq; simp [go_sem, *] at xy za zv)); (try have jx : w.heap.size < w4.heap.size := by omega); (try (obtain ⟨kq, zw⟩ := cfAt hb4 (w.heap.size + 1); have zb := kq 0; have zc := kq 1; have zd := kq 2; clear kq; simp [go_sem, *] at zb zc zd zw)); (try have jy : w.heap.size + 1 < w4.heap.size := by omega); (try (obtain ⟨kq, zm⟩ := cfAt hb4 (wr.heap.size); have xl := kq 0; have xm := kq 1; have xn := kq 2; have xo := kq 3; clear kq; simp [go_sem, *] at xl xm xn xo zm)); (try have jw : wr.heap.size < w4.heap.size := by omega); (try clear qk ql qx); (try clear ze); (try clear qm qn qo qy); (try clear zf); (try clear xd xe xf xg zh); (try clear zi); (try clear xr xt zq); (try clear zr); (try clear xu xv xw zt); (try clear zu); (try clear xh xi xj xk zj); (try clear zk); (try clear qq qr qz); (try clear zo); (try clear qt qu qv xc); (try clear zp); (try clear qe qf qg qh qw); (try clear zg)))
      have qc := (hb4.block (w.heap.size) (blk_lt' qi.out)).trans qi.out
      clear zx zy jl qi
      obtain ⟨je, jf, jn, yb⟩ := bk2 qc
      replace qc := Lib.hid qc
      have qd := (hb4.block (wr.heap.size) (blk_lt' qj.out)).trans qj.out
      clear ja jb jc jd jm qj
      obtain ⟨jg, jh, ji, jj, jo, yc⟩ := bk4 qd
      replace qd := Lib.hid qd
      replace ux := ux.below hb4
      replace uz := uz.below hb4
      have hB4 : Below w.heap.size w w4 := below_via hb4 (by assumption) (by go_size)
      have hbr4 := below_via hb4 hbr3 (by have := hbr3.size; omega)
      go_wp2_with fail
      go_ret2
      refine ⟨.slice (some ⟨g, 0, none⟩) (j + 1) cap, zs, w.heap.size + 2, by rw [HN.out]; rfl, HR.out.below bel, HA.out, by have := HL.out; omega, by rw [HN.out]; have := HL.out; simp [atB]; omega, ?_⟩
      exact bel
     ·have HN := Lib.hid hn1
      clear hn1
      go_upto_region 12 with (first | (have _t := tok4; go_at_call 97; (with_reducible refine ((TD _ _ _ _ _ _ _ _ _ (ux.below bel) (uz.below bel))).mono ?_); rintro e w4 ⟨b6, a6, n6, c6, b7, a7, n7, c7, rfl, vx, vz, f6, f7, hb4⟩; clear tok4 _t; have hz4 := hb4.size; (try simp only [sA, sB, sC, sD] at hz4); (try (obtain ⟨kq, zv⟩ := cfAt hb4 (w.heap.size); have xy := kq 0; have za := kq 1; clear kq; simp [go_sem, *] at xy za zv)); (try have jx : w.heap.size < w4.heap.size := by omega); (try (obtain ⟨kq, zw⟩ := cfAt hb4 (w.heap.size + 1); have zb := kq 0; have zc := kq 1; have zd := kq 2; clear kq; simp [go_sem, *] at zb zc zd zw)); (try have jy : w.heap.size + 1 < w4.heap.size := by omega); (try (obtain ⟨kq, zm⟩ := cfAt hb4 (wr.heap.size); have xl := kq 0; have xm := kq 1; have xn := kq 2; have xo := kq 3; clear kq; simp [go_sem, *] at xl xm xn xo zm)); (try have jw : wr.heap.size < w4.heap.size := by omega); (try clear qk ql qx); (try clear ze); (try clear qm qn qo qy); (try clear zf); (try clear xd xe xf xg zh); (try clear zi); (try clear xr xt zq); (try clear zr); (try clear xu xv xw zt); (try clear zu); (try clear xh xi xj xk zj); (try clear zk); (try clear qq qr qz); (try clear zo); (try clear qt qu qv xc); (try clear zp); (try clear qe qf qg qh qw); (try clear zg)))
      have qc := (hb4.block (w.heap.size) (blk_lt' qi.out)).trans qi.out
      clear zx zy jl qi
      obtain ⟨je, jf, jn, yb⟩ := bk2 qc
      replace qc := Lib.hid qc
      have qd := (hb4.block (wr.heap.size) (blk_lt' qj.out)).trans qj.out
      clear ja jb jc jd jm qj
      obtain ⟨jg, jh, ji, jj, jo, yc⟩ := bk4 qd
      replace qd := Lib.hid qd
      replace ux := ux.below hb4
      replace uz := uz.below hb4
      have hB4 : Below w.heap.size w w4 := below_via hb4 (by assumption) (by go_size)
      have hbr4 := below_via hb4 hbr3 (by have := hbr3.size; omega)
      have hgw : g < w3.heap.size := by have := hbr3.size; omega
      have F6 : farR a6 n6 (.slice (some ⟨g, 0, none⟩) (j + 1) cap) := fun _ A e h => by have := f6 A e; simp [Value.ownBlock] at h; omega
      have F7 : farR a7 n7 (.slice (some ⟨g, 0, none⟩) (j + 1) cap) := fun _ A e h => by have := f7 A e; simp [Value.ownBlock] at h; omega
      clear f6 f7
      replace qc := qc.out
      replace qd := qd.out
      refine chk (fun W => Below w.heap.size w W ∧ W.heap[w.heap.size]? = some (.cells #[.int .i64 A, .int .i64 B] 32 (0, 0)) ∧ W.heap[w4.heap.size]? = some (.cells #[.bool b6, .slice a6 n6 c6, .bool b7, .slice a7 n7 c7] 107 (0, 0)) ∧ Wx W b6 a6 n6 c6 p1 ∧ Wx W b7 a7 n7 c7 q1 ∧ Below wr.heap.size wr W) (by refine ⟨?_, ?_, ?_, ?_, ?_, ?_⟩ <;> (exact ck)) ?_
      try clear vx
      try clear vz
      clear je jf jn qc
      clear jg jh ji jj jo qd
      clear hB4
      rintro w5 ⟨hB5, zn, jk, vx', vz', hbr5⟩
      obtain ⟨ye, yf, yo, yd⟩ := bk2 zn
      replace zn := Lib.hid zn
      obtain ⟨yg, yh, yi, yj, yp, yq⟩ := bk4 jk
      replace jk := Lib.hid jk
      have vx := vx'
      clear vx'
      have vz := vz'
      clear vz'
      obtain ⟨xs, ho, hes⟩ := HR.out.below hbr5
      have hol := ho.1
      rw [HL.out] at ho
      have HO := Lib.hid ho
      have HE := Lib.hid hes
      have HXL := Lib.hid hol
      clear ho hes hol TB TD
      go_wp2_with (first | (at_builtin; refine wpList_append_own_at _ rfl _ _ 101 rfl (w.heap.size + 2) 107 i0 (.agg #[.bool false, .slice none 0 0, .bool false, .slice none 0 0]) 4 64 Tryz.underlying101 hi iz0 iz1 iz2 rfl (by decide) (.slice (some ⟨g, 0, none⟩) (j + 1) cap) _ _ rfl (HO.out.alloc _) ⟨w5.heap.size, 0, none⟩ 1 1 [.bool b6, .slice a6 n6 c6, .bool b7, .slice a7 n7 c7] rfl rfl (cells_new _ _ _) (by simp [Value.oneCell']) (by unfold maxLen; omega) (by omega) (by simp; omega) ?_; intro v1 w6 hv1 hg1 _ hat))
      go_roundw
      case rel => 
       have hgr := hg1
       refine ⟨j + 1, zs ++ [(p1, q1)], by congr 1; omega, by omega, by simp [HL.out], ⟨_, by rw [show (zs ++ [(p1, q1)]).length = j + 1 + 1 by simp [HL.out]]; exact hv1, HE.out.push HXL.out vx vz F6 F7 hg1 hat⟩, HA.out.push (by rw [HL.out]; exact HN.out), ?_, ?_⟩
       ·have HC5 := zn.out
        exact (hg1.block _ (Nat.lt_of_lt_of_le yd (by simp)) (fun h => by
         have h2 : w.heap.size = g := by simpa [Value.ownBlock] using h
         omega)).trans (bx_old HC5 _)
       ·exact (hB5.alloc (by omega) _).grown hg1 (by simp; omega) (fun k h => by
         have h2 : g = k := by simpa [Value.ownBlock] using h
         omega)
      case measure => simp [intOf]; omega
   ·obtain rfl : j = n := by omega
    have hst := Lib.hid (hal j (by omega))
    obtain ⟨a3, c3, rfl, hcap, hcm⟩ := hrow.shape
    have HR := Lib.hid hrow
    have HL := Lib.hid hl
    have HA := Lib.hid hal
    clear hrow hl hal hC
    go_wp2_with fail
    go_ret2
    refine ⟨_, zs, w.heap.size + 2, by rw [hst.out]; rfl, HR.out, HA.out, by have := HL.out; omega, by rw [hst.out]; have := HL.out; simp [atB]; omega, ?_⟩
    exact bel
end Go.Proofs.YtnkmgpmehkholaaGreat
