/- Lemmas and contracts of functions. No condition. -/
import Derived.Test.YtbnglnbcfabmgaaPf18
import Derived.Test.YtbnglnbcfabmgaaPf26
import Derived.Test.YtbnglnbcfabmgaaPf29
namespace Go.Proofs.Ytbnglnbcfabmgaa
open Go.RowKit
set_option linter.unusedVariables false
set_option maxHeartbeats 16000000
set_option maxRecDepth 20000
set_option linter.unusedSimpArgs false
attribute [local go_sem] openAt openUpon
theorem orF_no {A x y e : Int} {f k : Nat} (h : (ptM A x y e (k + 1)).2.2.2 = false) : orF A x y e (f + 1) k = (0, false) := by
 rw [orF, if_neg (by rw [h]; simp)]
theorem orF_end {A x y e : Int} {f k : Nat} (h : (ptM A x y e (k + 1)).2.2.2 = true) (h2 : (ptM A x y e (k + 1)).2.2.1 = 0) : orF A x y e (f + 1) k = ((k : Int) + 1, true) := by
 rw [orF, if_pos h, if_pos h2]
theorem orF_next {A x y e : Int} {f k : Nat} (h : (ptM A x y e (k + 1)).2.2.2 = true) (h2 : (ptM A x y e (k + 1)).2.2.1 ≠ 0) : orF A x y e (f + 1) k = orF A x y e f (k + 1) := by
 rw [orF, if_pos h, if_neg h2]
def OoRel (w : World) (A B x y e : Int) (r : Int × Bool) (nv : Value) (wr : World) : Prop := ∃ (k : Nat) (a b c : Int), nv = .int .i64 ((k : Int) + 1) ∧ k ≤ 12 ∧ ptM A x y e k = (a, b, c, true) ∧ orF A x y e (12 - k) k = r ∧
 wr.heap[w.heap.size]? = some (.cells #[.int .i64 A, .int .i64 B] 29 (0, 0)) ∧ wr.heap[w.heap.size + 1]? = some (.cells #[.int .i64 x, .int .i64 y, .int .i64 e] 45 (0, 0)) ∧
 wr.heap[w.heap.size + 1 + 1]? = some (.cells #[.int .i64 a, .int .i64 b, .int .i64 c] 45 (0, 0)) ∧ Below w.heap.size w wr
theorem orderOfPoint_any (A B x y e : Int) (w : World) (hA : -1000 ≤ A ∧ A ≤ 1000) (hB : -10000 ≤ B ∧ B ≤ 10000) (hp : ptB A B x y e = true) :
  Calls Try.prog 48 #[.agg #[.int .i64 A, .int .i64 B], .agg #[.int .i64 x, .int .i64 y, .int .i64 e]] w fun r w' =>
   r = .returned (.tuple #[.int .i64 (orV A x y e).1, .bool (orV A x y e).2]) ∧ Below w.heap.size w w' := by
 obtain ⟨⟨r1, r2⟩, hr⟩ : ∃ r, orV A x y e = r := ⟨_, rfl⟩
 rw [hr]
 have HR := Lib.hid (show orF A x y e (12 - 0) 0 = (r1, r2) from hr)
 clear hr
 have tok1 := trivial
 have tok2 := trivial
 have tok3 := trivial
 go_enter Try.func48, Try.ntmps48
 go_upto_region 2 with fail
 refine chk (fun W => Below w.heap.size w W ∧ W.heap[w.heap.size]? = some (.cells #[.int .i64 A, .int .i64 B] 29 (0, 0)) ∧ W.heap[w.heap.size + 1]? = some (.cells #[.int .i64 x, .int .i64 y, .int .i64 e] 45 (0, 0)) ∧ W.heap[w.heap.size + 1 + 1]? = some (.cells #[.int .i64 0, .int .i64 0, .int .i64 0] 45 (0, 0))) (by refine ⟨?_, ?_, ?_, ?_⟩ <;> (exact ck)) ?_
 rintro w1 ⟨hB1, qa, qb, qc⟩
 obtain ⟨qn, qo, xo, zn⟩ := bk2 qa
 replace qa := Lib.hid qa
 obtain ⟨qp, qq, qr, xp, zo⟩ := bk3 qb
 replace qb := Lib.hid qb
 obtain ⟨qt, qu, qv, xr, zp⟩ := bk3 qc
 replace qc := Lib.hid qc
 go_wp2_with fail
 go_loopw [7] (fun nv wr => OoRel w A B x y e (r1, r2) nv wr) (fun nv _ => (13 - intOf nv).toNat)
 case atStart => exact ⟨0, 0, 0, 0, rfl, by omega, rfl, HR.out, qa.out, qb.out, qc.out, hB1⟩
 case round =>
  clear HR
  obtain ⟨k, a, b, c, rfl, hk, hm, hf, hC, hP, hN, hbw⟩ := hrel
  have HM := Lib.hid hm
  have HF := Lib.hid hf
  clear hm hf
  by_cases hlt : k < 12
  ·have hle : (k : Int) + 1 ≤ 12 := by omega
   have hok := ptM_ok hA hB hp k
   rw [HM.out] at hok
   have hpk : ptB A B a b c = true := by rcases hok with ⟨_, h⟩ | h; exact h; simp at h
   have hst := ptM_step (show (ptM A x y e k).2.2.2 = true by rw [HM.out])
   rw [HM.out] at hst
   have TA := fun W : World => addPoints_any A B a b c x y e W hA hB hpk hp
   obtain ⟨a2, b2, c2, ok, hq⟩ := pt4 (ptS A a b c x y e)
   simp only [hq] at TA hst
   have HST := Lib.hid hst
   clear hok hpk hst hq
   go_upto_region 5 with fail
   replace qa := qa.out
   replace qb := qb.out
   replace qc := qc.out
   refine chk (fun W => Below w.heap.size w W ∧ W.heap[w.heap.size]? = some (.cells #[.int .i64 A, .int .i64 B] 29 (0, 0)) ∧ W.heap[w.heap.size + 1]? = some (.cells #[.int .i64 x, .int .i64 y, .int .i64 e] 45 (0, 0)) ∧ W.heap[w.heap.size + 1 + 1]? = some (.cells #[.int .i64 a, .int .i64 b, .int .i64 c] 45 (0, 0))) (by refine ⟨?_, ?_, ?_, ?_⟩ <;> (exact ck)) ?_
   clear qn qo xo qa
   clear qp qq qr xp qb
   clear qt qu qv xr qc
   clear hB1
   rintro w2 ⟨hB2, qd, qe, qf⟩
   obtain ⟨qw, qx, xt, zq⟩ := bk2 qd
   replace qd := Lib.hid qd
   obtain ⟨qy, qz, xa, xu, zr⟩ := bk3 qe
   replace qe := Lib.hid qe
   obtain ⟨xb, xc, xd, xw, zt⟩ := bk3 qf
   replace qf := Lib.hid qf
   clear hC hP hN
   go_upto_region 6 with (first | (have _t := tok3; go_at_call 44; (with_reducible refine ((TA _)).mono ?_); rintro e w3 ⟨rfl, hb3⟩; clear tok3 _t; have hz3 := hb3.size; (try simp only [sA, sB, sC, sD] at hz3)))
   have qg := (hb3.block (w.heap.size) (blk_lt' qd.out)).trans qd.out
   clear qw qx xt qd
   obtain ⟨xe, xf, xx, zu⟩ := bk2 qg
   replace qg := Lib.hid qg
   have qh := (hb3.block (w.heap.size + 1) (blk_lt' qe.out)).trans qe.out
   clear qy qz xa xu qe
   obtain ⟨xg, xh, xi, xy, zv⟩ := bk3 qh
   replace qh := Lib.hid qh
   have qi := (hb3.block (w.heap.size + 1 + 1) (blk_lt' qf.out)).trans qf.out
   clear xb xc xd xw qf
   obtain ⟨xj, xm, xn, xz, zw⟩ := bk3 qi
   replace qi := Lib.hid qi
   have hB3 : Below w.heap.size w w3 := below_via hb3 (by assumption) (by go_size)
   replace qg := qg.out
   replace qh := qh.out
   replace qi := qi.out
   refine chk (fun W => Below w.heap.size w W ∧ W.heap[w.heap.size]? = some (.cells #[.int .i64 A, .int .i64 B] 29 (0, 0)) ∧ W.heap[w.heap.size + 1]? = some (.cells #[.int .i64 x, .int .i64 y, .int .i64 e] 45 (0, 0)) ∧ W.heap[w.heap.size + 1 + 1]? = some (.cells #[.int .i64 a, .int .i64 b, .int .i64 c] 45 (0, 0)) ∧ W.heap[w3.heap.size]? = some (.cells #[.int .i64 a2, .int .i64 b2, .int .i64 c2] 45 (0, 0))) (by refine ⟨?_, ?_, ?_, ?_, ?_⟩ <;> (exact ck)) ?_
   clear xe xf xx qg
   clear xg xh xi xy qh
   clear xj xm xn xz qi
   clear hB3
   rintro w4 ⟨hB4, qj, qk, ql, qm⟩
   obtain ⟨za, zb, zx, zy⟩ := bk2 qj
   replace qj := Lib.hid qj
   obtain ⟨zc, zd, ze, zz, ja⟩ := bk3 qk
   replace qk := Lib.hid qk
   obtain ⟨zg, zh, zi, jb, jc⟩ := bk3 ql
   replace ql := Lib.hid ql
   obtain ⟨zj, zk, zm, jd, je⟩ := bk3 qm
   replace qm := Lib.hid qm
   generalize w3.heap.size = gs at *
   try clear hb3
   obtain ⟨f, hf⟩ : ∃ f, 12 - k = f + 1 := ⟨12 - k - 1, by omega⟩
   rw [hf] at HF
   have HFF := Lib.hid hf
   clear hf
   cases ok
   ·have hR := HF.out
    rw [orF_no (by rw [HST.out])] at hR
    obtain ⟨rfl, rfl⟩ : 0 = r1 ∧ false = r2 := by simpa using hR
    clear hR
    go_wp2_with fail
    go_ret2
    refine ⟨rfl, hB4⟩
   ·by_cases hc : c2 = 0
    ·have hR := HF.out
     rw [orF_end (by rw [HST.out]) (by rw [HST.out]; exact hc)] at hR
     obtain ⟨rfl, rfl⟩ : (k : Int) + 1 = r1 ∧ true = r2 := by simpa using hR
     clear hR
     subst hc
     go_wp2_with fail
     go_ret2
     refine ⟨rfl, hB4⟩
    ·have hcc : (c2 == 0) = false := by simpa using hc
     have hR := HF.out
     rw [orF_next (by rw [HST.out]) (by rw [HST.out]; exact hc)] at hR
     have HR2 := Lib.hid hR
     clear hR hc
     go_wp2_with fail
     go_roundw
     have q1 := qj.out
     have q2 := qk.out
     have q3 := ql.out
     case rel => exact ⟨k + 1, a2, b2, c2, by go_num, by omega, HST.out, by have := HFF.out; rw [show 12 - (k + 1) = f by omega]; exact HR2.out, ck, ck, ck, ck⟩
     case measure => simp [intOf]; omega
  ·obtain rfl : k = 12 := by omega
   have hR := HF.out
   rw [show orF A x y e (12 - 12) 12 = (0, false) from rfl] at hR
   obtain ⟨rfl, rfl⟩ : 0 = r1 ∧ false = r2 := by simpa using hR
   have hnc : ¬ (((12 : Nat) : Int) + 1 ≤ (12 : Int)) := by omega
   clear hR HF hlt
   go_wp2_with fail
   go_ret2
   refine ⟨rfl, hbw⟩
def OsRel (w : World) (A B x y e : Int) (r : Int × Bool) (nv : Value) (wr : World) : Prop := ∃ (k : Nat), nv = .int .i64 ((k : Int) + 1) ∧ k ≤ 12 ∧ orF A x y e (12 - k) k = r ∧
 wr.heap[w.heap.size]? = some (.cells #[.int .i64 A, .int .i64 B] 29 (0, 0)) ∧ wr.heap[w.heap.size + 1]? = some (.cells #[.int .i64 x, .int .i64 y, .int .i64 e] 45 (0, 0)) ∧ Below w.heap.size w wr
theorem ptN_nat (A x y e : Int) (k : Nat) : ptN A x y e ((k : Int) + 1) = ptM A x y e (k + 1) := by
 unfold ptN; rw [if_neg (by omega)]; congr 1
theorem ptOrder_any (A B x y e : Int) (w : World) (hA : -1000 ≤ A ∧ A ≤ 1000) (hB : -10000 ≤ B ∧ B ≤ 10000) (hp : ptB A B x y e = true) :
  Calls Try.prog 36 #[.agg #[.int .i64 A, .int .i64 B], .agg #[.int .i64 x, .int .i64 y, .int .i64 e]] w fun r w' =>
   r = .returned (.tuple #[.int .i64 (orV A x y e).1, .bool (orV A x y e).2]) ∧ Below w.heap.size w w' := by
 obtain ⟨⟨r1, r2⟩, hr⟩ : ∃ r, orV A x y e = r := ⟨_, rfl⟩
 rw [hr]
 have HR := Lib.hid (show orF A x y e (12 - 0) 0 = (r1, r2) from hr)
 clear hr
 have tok1 := trivial
 have tok2 := trivial
 have tok3 := trivial
 go_enter Try.func36, Try.ntmps36
 go_upto_region 1 with fail
 refine chk (fun W => Below w.heap.size w W ∧ W.heap[w.heap.size]? = some (.cells #[.int .i64 A, .int .i64 B] 29 (0, 0)) ∧ W.heap[w.heap.size + 1]? = some (.cells #[.int .i64 x, .int .i64 y, .int .i64 e] 45 (0, 0))) (by refine ⟨?_, ?_, ?_⟩ <;> (exact ck)) ?_
 rintro w1 ⟨hB1, qa, qb⟩
 obtain ⟨qj, qk, qz, xp⟩ := bk2 qa
 replace qa := Lib.hid qa
 obtain ⟨ql, qm, qn, xa, xr⟩ := bk3 qb
 replace qb := Lib.hid qb
 go_wp2_with fail
 go_loopw [6] (fun nv wr => OsRel w A B x y e (r1, r2) nv wr) (fun nv _ => (13 - intOf nv).toNat)
 case atStart => exact ⟨0, rfl, by omega, HR.out, qa.out, qb.out, hB1⟩
 case round =>
  clear HR
  obtain ⟨k, rfl, hk, hf, hC, hP, hbw⟩ := hrel
  have HF := Lib.hid hf
  clear hf
  by_cases hlt : k < 12
  ·have hle : (k : Int) + 1 ≤ 12 := by omega
   have TA := fun W : World => ptTimes_any A B x y e ((k : Int) + 1) W hA hB hp (by omega)
   obtain ⟨a2, b2, c2, ok, hq⟩ := pt4 (ptM A x y e (k + 1))
   simp only [ptN_nat, hq] at TA
   have HST := Lib.hid hq
   clear hq
   go_upto_region 4 with fail
   replace qa := qa.out
   replace qb := qb.out
   refine chk (fun W => Below w.heap.size w W ∧ W.heap[w.heap.size]? = some (.cells #[.int .i64 A, .int .i64 B] 29 (0, 0)) ∧ W.heap[w.heap.size + 1]? = some (.cells #[.int .i64 x, .int .i64 y, .int .i64 e] 45 (0, 0))) (by refine ⟨?_, ?_, ?_⟩ <;> (exact ck)) ?_
   clear qj qk qz qa
   clear ql qm qn xa qb
   clear hB1
   rintro w2 ⟨hB2, qc, qd⟩
   obtain ⟨qo, qp, xb, xt⟩ := bk2 qc
   replace qc := Lib.hid qc
   obtain ⟨qq, qr, qt, xc, xu⟩ := bk3 qd
   replace qd := Lib.hid qd
   clear hC hP
   go_upto_region 5 with (first | (have _t := tok3; go_at_call 52; (with_reducible refine ((TA _)).mono ?_); rintro e w3 ⟨rfl, hb3⟩; clear tok3 _t; have hz3 := hb3.size; (try simp only [sA, sB, sC, sD] at hz3)))
   have qe := (hb3.block (w.heap.size) (blk_lt' qc.out)).trans qc.out
   clear qo qp xb qc
   obtain ⟨qu, qv, xd, xw⟩ := bk2 qe
   replace qe := Lib.hid qe
   have qf := (hb3.block (w.heap.size + 1) (blk_lt' qd.out)).trans qd.out
   clear qq qr qt xc qd
   obtain ⟨qw, qx, qy, xe, xx⟩ := bk3 qf
   replace qf := Lib.hid qf
   have hB3 : Below w.heap.size w w3 := below_via hb3 (by assumption) (by go_size)
   replace qe := qe.out
   replace qf := qf.out
   refine chk (fun W => Below w.heap.size w W ∧ W.heap[w.heap.size]? = some (.cells #[.int .i64 A, .int .i64 B] 29 (0, 0)) ∧ W.heap[w.heap.size + 1]? = some (.cells #[.int .i64 x, .int .i64 y, .int .i64 e] 45 (0, 0)) ∧ W.heap[w3.heap.size]? = some (.cells #[.int .i64 a2, .int .i64 b2, .int .i64 c2] 45 (0, 0))) (by refine ⟨?_, ?_, ?_, ?_⟩ <;> (exact ck)) ?_
   clear qu qv xd qe
   clear qw qx qy xe qf
   clear hB3
   rintro w4 ⟨hB4, qg, qh, qi⟩
   obtain ⟨xf, xg, xy, xz⟩ := bk2 qg
   replace qg := Lib.hid qg
   obtain ⟨xh, xi, xj, za, zb⟩ := bk3 qh
   replace qh := Lib.hid qh
   obtain ⟨xm, xn, xo, zc, zd⟩ := bk3 qi
   replace qi := Lib.hid qi
   generalize w3.heap.size = gs at *
   try clear hb3
   obtain ⟨f, hf⟩ : ∃ f, 12 - k = f + 1 := ⟨12 - k - 1, by omega⟩
   rw [hf] at HF
   have HFF := Lib.hid hf
   clear hf
   cases ok
   ·have hR := HF.out
    rw [orF_no (by rw [HST.out])] at hR
    obtain ⟨rfl, rfl⟩ : 0 = r1 ∧ false = r2 := by simpa using hR
    clear hR
    go_wp2_with fail
    go_ret2
    refine ⟨rfl, hB4⟩
   ·by_cases hc : c2 = 0
    ·have hR := HF.out
     rw [orF_end (by rw [HST.out]) (by rw [HST.out]; exact hc)] at hR
     obtain ⟨rfl, rfl⟩ : (k : Int) + 1 = r1 ∧ true = r2 := by simpa using hR
     clear hR
     subst hc
     go_wp2_with fail
     go_ret2
     refine ⟨rfl, hB4⟩
    ·have hcc : (c2 == 0) = false := by simpa using hc
     have hR := HF.out
     rw [orF_next (by rw [HST.out]) (by rw [HST.out]; exact hc)] at hR
     have HR2 := Lib.hid hR
     clear hR hc
     go_wp2_with fail
     go_roundw
     have q1 := qg.out
     have q2 := qh.out
     case rel => exact ⟨k + 1, by go_num, by omega, by have := HFF.out; rw [show 12 - (k + 1) = f by omega]; exact HR2.out, ck, ck, ck⟩
     case measure => simp [intOf]; omega
  ·obtain rfl : k = 12 := by omega
   have hR := HF.out
   rw [show orF A x y e (12 - 12) 12 = (0, false) from rfl] at hR
   obtain ⟨rfl, rfl⟩ : 0 = r1 ∧ false = r2 := by simpa using hR
   have hnc : ¬ (((12 : Nat) : Int) + 1 ≤ (12 : Int)) := by omega
   clear hR HF hlt
   go_wp2_with fail
   go_ret2
   refine ⟨rfl, hbw⟩
end Go.Proofs.Ytbnglnbcfabmgaa
