/- Lemmas and contracts of functions. No condition. -/
import Derived.Test.YtbnglnbcfabmgaaPf22
import Derived.Test.YtbnglnbcfabmgaaPf26
import Derived.Test.YtbnglnbcfabmgaaPf29
namespace Go.Proofs.Ytbnglnbcfabmgaa
section
open Go.RowKit
set_option linter.unusedVariables false
set_option maxHeartbeats 16000000
set_option maxRecDepth 20000
set_option linter.unusedSimpArgs false
attribute [local go_sem] openAt openUpon
theorem ptM_fail {A B x y e : Int} (hA : -1000 ≤ A ∧ A ≤ 1000) (hB : -10000 ≤ B ∧ B ≤ 10000) (hp : ptB A B x y e = true) {k : Nat} {a b c : Int} (h : ptM A x y e k = (a, b, c, false)) (j : Nat) (hj : k ≤ j) : ptM A x y e j = (0, 0, 0, false) :=
 ptM_out hA hB hp (by rw [h]) j hj
/-- the numbers of the multiples 1 .. k of a point -/
noncomputable def mlL (A x y e : Int) : Nat → List Int
 | 0 => []
 | k + 1 => mlL A x y e k ++ [(ptM A x y e (k + 1)).1, (ptM A x y e (k + 1)).2.1, (ptM A x y e (k + 1)).2.2.1]
theorem mlL_len (A x y e : Int) : ∀ k, (mlL A x y e k).length = 3 * k
 | 0 => rfl
 | k + 1 => by simp [mlL, mlL_len A x y e k]; omega
theorem mlL_at (A x y e : Int) : ∀ (n k : Nat), k < n → (mlL A x y e n)[k * 3]?.getD 0 = (ptM A x y e (k + 1)).1 ∧ (mlL A x y e n)[k * 3 + 1]?.getD 0 = (ptM A x y e (k + 1)).2.1 ∧ (mlL A x y e n)[k * 3 + 2]?.getD 0 = (ptM A x y e (k + 1)).2.2.1
 | n + 1, k, hk => by
  by_cases h : k < n
  ·obtain ⟨h1, h2, h3⟩ := mlL_at A x y e n k h
   have hl := mlL_len A x y e n
   unfold mlL
   rw [List.getElem?_append_left (by omega), List.getElem?_append_left (by omega), List.getElem?_append_left (by omega)]
   exact ⟨h1, h2, h3⟩
  ·obtain rfl : k = n := by omega
   have hl := mlL_len A x y e k
   unfold mlL
   rw [List.getElem?_append_right (by omega), List.getElem?_append_right (by omega), List.getElem?_append_right (by omega), hl]
   rw [show k * 3 - 3 * k = 0 by omega, show k * 3 + 1 - 3 * k = 1 by omega, show k * 3 + 2 - 3 * k = 2 by omega]
   exact ⟨rfl, rfl, rfl⟩
/-- a row of points that a call has made -/
def OwnP (W : World) (B : Nat) (T : TypeId) (v : Value) (zs : List Int) (k : Nat) : Prop := zs.length = 3 * k ∧ W.ownsRow B T 3 v k (ints zs)
theorem OwnP.below {W W2 : World} {B : Nat} {T : TypeId} {v : Value} {zs : List Int} {k : Nat} (h : OwnP W B T v zs k) (hb : Below W.heap.size W W2) : OwnP W2 B T v zs k :=
 ⟨h.1, h.2.1, h.2.2.imp id fun ⟨g, cap, cur, hv, hB, hg, rest⟩ => ⟨g, cap, cur, hv, hB, (hb.block g (blk_lt' hg)).trans hg, rest⟩⟩
theorem cells3_new (w : World) (x y z : Value) (t : TypeId) : ∀ j u, [x, y, z][j]? = some u → (w.alloc (.cells #[x, y, z] t)).cell? ((⟨w.heap.size, 0, none⟩ : Addr).add j) = some u := by
 intro j u hj
 match j, hj with
 | 0, hj => simp at hj; subst hj; simp [Addr.add]
 | 1, hj => simp at hj; subst hj; simp [Addr.add]
 | 2, hj => simp at hj; subst hj; simp [Addr.add]
theorem OwnP.far {W : World} {B : Nat} {T : TypeId} {v : Value} {zs : List Int} {k : Nat} (h : OwnP W B T v zs k) {g : Nat} (hg : g < B) (o : Nat) (u : Value) : OwnP (W.setCell ⟨g, o, none⟩ u) B T v zs k :=
 ⟨h.1, h.2.1, h.2.2.imp id fun ⟨g', cap, cur, hv, hB, hg', rest⟩ => ⟨g', cap, cur, hv, hB, (Below.heap_setCell W ⟨g, o, none⟩ u g' (fun e => by have e' : g' = g := e; omega)).trans hg', rest⟩⟩
theorem OwnP.nil (W : World) (B : Nat) (T : TypeId) : OwnP W B T (.slice none 0 0) [] 0 := ⟨rfl, World.ownsRow_nil _ _ _ _⟩
theorem OwnP.at {W : World} {B : Nat} {T : TypeId} {v : Value} {zs : List Int} {k : Nat} (h : OwnP W B T v zs k) {i : Nat} (hi : i < k) : ∃ g cap, v = .slice (some ⟨g, 0, none⟩) k cap ∧ k ≤ cap ∧ cap ≤ maxLen ∧ g < W.heap.size ∧
  W.cell? ⟨g, i * 3, none⟩ = some (.int .i64 (zs[i * 3]?.getD 0)) ∧ W.cell? ⟨g, i * 3 + 1, none⟩ = some (.int .i64 (zs[i * 3 + 1]?.getD 0)) ∧ W.cell? ⟨g, i * 3 + 2, none⟩ = some (.int .i64 (zs[i * 3 + 2]?.getD 0)) := by
 obtain ⟨hl, hx, h⟩ := h
 rcases h with ⟨_, h2⟩ | ⟨g, cap, cur, hv, hB, hg, hnc, hcm, hcs, ht⟩
 ·omega
 ·have hc : ∀ j, j < 3 * k → W.cell? ⟨g, j, none⟩ = some (.int .i64 (zs[j]?.getD 0)) := fun j hj => by
   rw [cell_of_row W g j cur T (0, 0) hg]
   have h3 : (ints zs)[j]? = cur[j]? := by rw [← ht, List.getElem?_take, if_pos (by omega)]; simp
   rw [← h3, ints_at zs j (by omega), List.getD_eq_getElem?_getD]
  exact ⟨g, cap, hv, hnc, hcm, blk_lt' hg, hc _ (by omega), hc _ (by omega), hc _ (by omega)⟩
/-- the loop's state: k multiples are laid, all of them points -/
def MlRel (w : World) (A B x y e : Int) (N : Nat) (iv ov : Value) (wr : World) : Prop := ∃ (k : Nat) (v : Value) (a b c : Int), iv = .int .i64 k ∧ v = ov ∧ k ≤ N ∧ ptM A x y e k = (a, b, c, true) ∧ OwnP wr (w.heap.size + 3) 45 v (mlL A x y e k) k ∧
 wr.heap[w.heap.size]? = some (.cells #[.int .i64 A, .int .i64 B] 29 (0, 0)) ∧ wr.heap[w.heap.size + 1]? = some (.cells #[.int .i64 x, .int .i64 y, .int .i64 e] 45 (0, 0)) ∧
 wr.heap[w.heap.size + 2]? = some (.cells #[.int .i64 a, .int .i64 b, .int .i64 c] 45 (0, 0)) ∧ Below w.heap.size w wr
def NewM (w : World) (A x y e : Int) (N : Nat) (r : Ending) (w' : World) : Prop := ∃ (v : Value) (B : Nat), r = .returned (.tuple #[v, .bool (ptM A x y e N).2.2.2]) ∧ ((ptM A x y e N).2.2.2 = true → OwnP w' B 45 v (mlL A x y e N) N) ∧ w.heap.size ≤ B ∧ Below w.heap.size w w'
theorem multiples_any (A B x y e : Int) (N : Nat) (w : World) (hA : -1000 ≤ A ∧ A ≤ 1000) (hB : -10000 ≤ B ∧ B ≤ 10000) (hp : ptB A B x y e = true) (hN : N ≤ 12) :
  Calls Try.prog 60 #[.agg #[.int .i64 A, .int .i64 B], .agg #[.int .i64 x, .int .i64 y, .int .i64 e], .int .i64 N] w (NewM w A x y e N) := by
 obtain ⟨i0, hi, iz0, iz1, iz2⟩ := info_parts infoPoint
 have tok1 := trivial
 have tok2 := trivial
 have tok3 := trivial
 go_enter Try.func60, Try.ntmps60
 go_upto_region 3 with fail
 refine chk (fun W => Below w.heap.size w W ∧ W.heap[w.heap.size]? = some (.cells #[.int .i64 A, .int .i64 B] 29 (0, 0)) ∧ W.heap[w.heap.size + 1]? = some (.cells #[.int .i64 x, .int .i64 y, .int .i64 e] 45 (0, 0)) ∧ W.heap[w.heap.size + 2]? = some (.cells #[.int .i64 0, .int .i64 0, .int .i64 0] 45 (0, 0))) (by refine ⟨?_, ?_, ?_, ?_⟩ <;> (exact ck)) ?_
 rintro w1 ⟨hB1, qa, qb, qc⟩
 obtain ⟨qq, qr, zg, jg⟩ := bk2 qa
 replace qa := Lib.hid qa
 obtain ⟨qt, qu, qv, zh, jh⟩ := bk3 qb
 replace qb := Lib.hid qb
 obtain ⟨qw, qx, qy, zi, ji⟩ := bk3 qc
 replace qc := Lib.hid qc
 have hs1 := hB1.size
 go_wp2_with fail
 go_loopw [14, 8] (fun iv ov wr => MlRel w A B x y e N iv ov wr) (fun iv _ _ => (N - intOf iv).toNat)
 case atStart => exact ⟨0, _, 0, 0, 0, rfl, rfl, by omega, rfl, OwnP.nil _ _ _, qa.out, qb.out, qc.out, hB1⟩
 case round =>
  obtain ⟨k, v, a, b, c, rfl, rfl, hk, hm, ho, hC, hP, hS, hbw⟩ := hrel
  have HM := Lib.hid hm
  have HO0 := Lib.hid ho
  have hsw := hbw.size
  clear hm ho
  by_cases hlt : k < N
  ·have hltc : (k : Int) < (N : Int) := by omega
   have hok := ptM_ok hA hB hp k
   rw [HM.out] at hok
   have hpk : ptB A B a b c = true := by rcases hok with ⟨_, h⟩ | h; exact h; simp at h
   have hst := ptM_step (show (ptM A x y e k).2.2.2 = true by rw [HM.out])
   rw [HM.out] at hst
   have TA := fun W : World => addPoints_any A B a b c x y e W hA hB hpk hp
   obtain ⟨a2, b2, c2, ok, hq⟩ := pt4 (ptS A a b c x y e)
   simp only [hq] at TA hst
   have HST := Lib.hid hst
   clear hok hpk hst hq
   go_upto_region 5 with fail
   replace qa := qa.out
   replace qb := qb.out
   replace qc := qc.out
   refine chk (fun W => Below w.heap.size w W ∧ W.heap[w.heap.size]? = some (.cells #[.int .i64 A, .int .i64 B] 29 (0, 0)) ∧ W.heap[w.heap.size + 1]? = some (.cells #[.int .i64 x, .int .i64 y, .int .i64 e] 45 (0, 0)) ∧ W.heap[w.heap.size + 2]? = some (.cells #[.int .i64 a, .int .i64 b, .int .i64 c] 45 (0, 0)) ∧ Below wr.heap.size wr W) (by refine ⟨?_, ?_, ?_, ?_, ?_⟩ <;> (exact ck)) ?_
   clear qq qr zg qa
   clear qt qu qv zh qb
   clear qw qx qy zi qc
   clear hB1
   rintro w2 ⟨hB2, qd, qe, qf, hbr⟩
   obtain ⟨qz, xa, zj, jj⟩ := bk2 qd
   replace qd := Lib.hid qd
   obtain ⟨xb, xc, xd, zk, jk⟩ := bk3 qe
   replace qe := Lib.hid qe
   obtain ⟨xe, xf, xg, zm, jl⟩ := bk3 qf
   replace qf := Lib.hid qf
   clear hC hP hS
   go_upto_region 6 with (first | (have _t := tok3; go_at_call 44; (with_reducible refine ((TA _)).mono ?_); rintro e w3 ⟨rfl, hb3⟩; clear tok3 _t; have hz3 := hb3.size; (try simp only [sA, sB, sC, sD] at hz3)))
   have qg := (hb3.block (w.heap.size) (blk_lt' qd.out)).trans qd.out
   clear qz xa zj qd
   obtain ⟨xh, xi, zn, jm⟩ := bk2 qg
   replace qg := Lib.hid qg
   have qh := (hb3.block (w.heap.size + 1) (blk_lt' qe.out)).trans qe.out
   clear xb xc xd zk qe
   obtain ⟨xj, xm, xn, zo, jn⟩ := bk3 qh
   replace qh := Lib.hid qh
   have qi := (hb3.block (w.heap.size + 2) (blk_lt' qf.out)).trans qf.out
   clear xe xf xg zm qf
   obtain ⟨xo, xp, xr, zp, jo⟩ := bk3 qi
   replace qi := Lib.hid qi
   have hB3 : Below w.heap.size w w3 := below_via hb3 (by assumption) (by go_size)
   have hbr3 := below_via hb3 hbr (by have := hbr.size; omega)
   have hbz3 := hbr3.size
   replace qg := qg.out
   replace qh := qh.out
   replace qi := qi.out
   refine chk (fun W => Below w.heap.size w W ∧ W.heap[w.heap.size]? = some (.cells #[.int .i64 A, .int .i64 B] 29 (0, 0)) ∧ W.heap[w.heap.size + 1]? = some (.cells #[.int .i64 x, .int .i64 y, .int .i64 e] 45 (0, 0)) ∧ W.heap[w.heap.size + 2]? = some (.cells #[.int .i64 a, .int .i64 b, .int .i64 c] 45 (0, 0)) ∧ W.heap[w3.heap.size]? = some (.cells #[.int .i64 a2, .int .i64 b2, .int .i64 c2] 45 (0, 0)) ∧ Below wr.heap.size wr W) (by refine ⟨?_, ?_, ?_, ?_, ?_, ?_⟩ <;> (exact ck)) ?_
   clear xh xi zn qg
   clear xj xm xn zo qh
   clear xo xp xr zp qi
   clear hB3
   rintro w4 ⟨hB4, qj, qk, ql, qm, hbr4⟩
   obtain ⟨xt, xu, zq, jp⟩ := bk2 qj
   replace qj := Lib.hid qj
   obtain ⟨xw, xx, xy, zr, jq⟩ := bk3 qk
   replace qk := Lib.hid qk
   obtain ⟨xz, za, zb, zt, jr⟩ := bk3 ql
   replace ql := Lib.hid ql
   obtain ⟨zc, zd, ze, zu, jt⟩ := bk3 qm
   replace qm := Lib.hid qm
   clear hbr3 hbr hbz3
   have ho4 := HO0.out.below hbr4
   have HO4 := Lib.hid ho4
   clear ho4 HO0
   cases ok
   ·have hR := ptM_fail hA hB hp HST.out N (by omega)
    go_upto_region 7 with fail
    go_wp2_with fail
    go_ret2
    refine ⟨.slice none 0 0, w.heap.size, by rw [hR]; rfl, fun h => (by rw [hR] at h; cases h), Nat.le_refl _, hB4⟩
   ·have HML := Lib.hid (show mlL A x y e (k + 1) = mlL A x y e k ++ [a2, b2, c2] by simp only [mlL, HST.out])
    go_upto_region 9 with fail
    have hf5 := ((HO4.out.far (g := w.heap.size + 1 + 1) (by omega) 0 (.int .i64 a2)).far (g := w.heap.size + 1 + 1) (by omega) 1 (.int .i64 b2)).far (g := w.heap.size + 1 + 1) (by omega) 2 (.int .i64 c2)
    replace qj := qj.out
    replace qk := qk.out
    replace ql := ql.out
    replace qm := qm.out
    refine chk (fun W => Below w.heap.size w W ∧ W.heap[w.heap.size]? = some (.cells #[.int .i64 A, .int .i64 B] 29 (0, 0)) ∧ W.heap[w.heap.size + 1]? = some (.cells #[.int .i64 x, .int .i64 y, .int .i64 e] 45 (0, 0)) ∧ W.heap[w.heap.size + 2]? = some (.cells #[.int .i64 a2, .int .i64 b2, .int .i64 c2] 45 (0, 0)) ∧ OwnP W (w.heap.size + 3) 45 v (mlL A x y e k) k) (by refine ⟨?_, ?_, ?_, ?_, ?_⟩ <;> (exact ck)) ?_
    clear xt xu zq qj
    clear xw xx xy zr qk
    clear xz za zb zt ql
    clear zc zd ze zu qm
    clear hB4
    rintro w5 ⟨hB5, qn, qo, qp, ho5⟩
    obtain ⟨zy, zz, ju, zv⟩ := bk2 qn
    replace qn := Lib.hid qn
    obtain ⟨ja, jb, jc, jv, zw⟩ := bk3 qo
    replace qo := Lib.hid qo
    obtain ⟨jd, je, jf, jw, zx⟩ := bk3 qp
    replace qp := Lib.hid qp
    have HO := Lib.hid ho5
    clear ho5 hf5 HO4
    have hl5 : w.heap.size + 3 ≤ w5.heap.size := by omega
    go_wp2_with (first | (at_builtin; refine wpList_append_own_at _ rfl _ _ 31 rfl (w.heap.size + 3) 45 i0 (.agg #[.int .i64 0, .int .i64 0, .int .i64 0]) 3 24 Try.underlying31 hi iz0 iz1 iz2 rfl (by decide) v k _ rfl (HO.out.2.alloc _) ⟨w5.heap.size, 0, none⟩ 1 1 [_, _, _] rfl rfl (cells3_new _ _ _ _ _) (by simp [Value.oneCell']) (by unfold maxLen; omega) (by omega) (by simp; omega) ?_; intro v1 w6 hv1 hg1 _ hat))
    go_roundw
    case rel =>
     refine ⟨k + 1, v1, a2, b2, c2, by go_num, rfl, by omega, HST.out, ?_, ?_, ?_, ?_, ?_⟩
     ·refine ⟨by rw [mlL_len], ?_⟩
      rw [HML.out, ints_append]
      simpa [ints] using hv1
     ·have q1 := qn.out
      exact (hg1.block _ (Nat.lt_of_lt_of_le zv (by simp)) (fun h => by have := (HO.out.2.lt _ h.symm).1; omega)).trans (bx_old q1 _)
     ·have q1 := qo.out
      exact (hg1.block _ (Nat.lt_of_lt_of_le zw (by simp)) (fun h => by have := (HO.out.2.lt _ h.symm).1; omega)).trans (bx_old q1 _)
     ·have q1 := qp.out
      exact (hg1.block _ (Nat.lt_of_lt_of_le zx (by simp)) (fun h => by have := (HO.out.2.lt _ h.symm).1; omega)).trans (bx_old q1 _)
     ·exact (hB5.alloc (by have := hB5.size; omega) _).grown hg1 (by simp; have := hB5.size; omega) (fun j h => by have := (HO.out.2.lt _ h).1; omega)
    case measure => simp [intOf]; omega
  ·obtain rfl : k = N := by omega
   clear hC hP hS
   go_wp2_with fail
   go_ret2
   refine ⟨v, w.heap.size + 3, by rw [HM.out]; rfl, fun _ => HO0.out, by omega, hbw⟩
end
section
open Go.RowKit
set_option linter.unusedVariables false
set_option maxHeartbeats 16000000
set_option maxRecDepth 20000
set_option linter.unusedSimpArgs false
attribute [local go_sem] openAt openUpon
theorem MultiplePoint_any (A B x y e n : Int) (w : World) (hcv : cvB A B = true) (hA : -1000 ≤ A ∧ A ≤ 1000) (hB : -10000 ≤ B ∧ B ≤ 10000) (hp : ptB A B x y e = true) (hn : -12 ≤ n ∧ n ≤ 12) :
  Calls Try.prog 43 #[.agg #[.int .i64 A, .int .i64 B], .agg #[.int .i64 x, .int .i64 y, .int .i64 e], .int .i64 n] w fun r w' =>
   r = .returned (.tuple #[.agg #[.int .i64 (ptN A x y e n).1, .int .i64 (ptN A x y e n).2.1, .int .i64 (ptN A x y e n).2.2.1], .bool (ptN A x y e n).2.2.2]) ∧ Below w.heap.size w w' := by
 obtain ⟨r1, r2, r3, r4, hr⟩ := pt4 (ptN A x y e n)
 rw [hr]
 have hyb : -3000000 ≤ y ∧ y ≤ 3000000 := by
  rcases pt_cases hA hB hp with ⟨_, rfl, _⟩ | ⟨_, _, h, _⟩
  ·omega
  ·exact h
 have T1 := fun W : World => Lib.hid (isPoint_any A B x y e W)
 rw [show (cvB A B && ptB A B x y e) = true by rw [hcv, hp]; rfl] at T1
 have T2 := fun W : World => Lib.hid (inside_any n (-12) 12 W)
 rw [show inB n (-12) 12 = true from inB_iff.2 hn] at T2
 clear hcv
 by_cases h0 : n < 0
 ·have HR := Lib.hid (show ptM A x (-y) e n.natAbs = (r1, r2, r3, r4) by rw [← hr, ptN]; first | rw [if_pos h0] | rw [if_neg h0])
  have hpm : ptB A B x (-y) e = true := by first | exact hp | exact ptB_neg hp
  obtain ⟨N, hN⟩ : ∃ N : Nat, n.natAbs = N := ⟨_, rfl⟩
  have hNb : N ≤ 12 := by omega
  rw [hN] at HR
  obtain rfl : n = -(N : Int) := by omega
  have TM := fun W : World => multiples_any A B x (-y) e N W hA hB hpm hNb
  have hok := ptM_ok hA hB hpm N
  unfold NewM at TM
  rw [HR.out] at TM hok
  have HOK := Lib.hid hok
  clear hr hp hok
  have tok1 := trivial
  have tok2 := trivial
  have tok3 := trivial
  have tok4 := trivial
  have tok5 := trivial
  go_enter Try.func43, Try.ntmps43
  go_upto_region 1 with fail
  refine chk (fun W => Below w.heap.size w W ∧ W.heap[w.heap.size]? = some (.cells #[.int .i64 A, .int .i64 B] 29 (0, 0)) ∧ W.heap[w.heap.size + 1]? = some (.cells #[.int .i64 x, .int .i64 y, .int .i64 e] 45 (0, 0)) ∧ W.heap[w.heap.size + 1 + 1]? = some (.cells #[.int .i64 0, .int .i64 0, .int .i64 0] 45 (0, 0))) (by refine ⟨?_, ?_, ?_, ?_⟩ <;> (exact ck)) ?_
  rintro w40 ⟨hB40, qa, qb, qc⟩
  obtain ⟨xb, xc, zi, jr⟩ := bk2 qa
  replace qa := Lib.hid qa
  obtain ⟨xd, xe, xf, zj, jt⟩ := bk3 qb
  replace qb := Lib.hid qb
  obtain ⟨xg, xh, xi, zk, ju⟩ := bk3 qc
  replace qc := Lib.hid qc
  go_upto_region 3 with (first | (have _t := tok1; go_at_call 40; (with_reducible refine ((T1 _).out).mono ?_); rintro e w1 ⟨rfl, hb1⟩; clear tok1 _t; have hz1 := hb1.size; (try simp only [sA, sB, sC, sD] at hz1); (try (obtain ⟨kq, xj⟩ := cfAt hb1 (w.heap.size); have qn := kq 0; have qo := kq 1; clear kq; simp [go_sem, *] at qn qo xj)); (try have zt : w.heap.size < w1.heap.size := by omega); (try (obtain ⟨kq, xm⟩ := cfAt hb1 (w.heap.size + 1); have qp := kq 0; have qq := kq 1; have qr := kq 2; clear kq; simp [go_sem, *] at qp qq qr xm)); (try have zu : w.heap.size + 1 < w1.heap.size := by omega); (try (obtain ⟨kq, xn⟩ := cfAt hb1 (w.heap.size + 1 + 1); have qt := kq 0; have qu := kq 1; have qv := kq 2; clear kq; simp [go_sem, *] at qt qu qv xn)); (try have zv : w.heap.size + 1 + 1 < w1.heap.size := by omega)) | (go_at_call 31; (with_reducible refine ((T2 _).out).mono ?_); rintro e w' ⟨rfl, rfl⟩))
  have qd := (hb1.block (w.heap.size) (blk_lt' qa.out)).trans qa.out
  clear xb xc zi qa
  obtain ⟨xo, xp, zm, jy⟩ := bk2 qd
  replace qd := Lib.hid qd
  have qe := (hb1.block (w.heap.size + 1) (blk_lt' qb.out)).trans qb.out
  clear xd xe xf zj qb
  obtain ⟨xr, xt, xu, zn, jz⟩ := bk3 qe
  replace qe := Lib.hid qe
  have qf := (hb1.block (w.heap.size + 1 + 1) (blk_lt' qc.out)).trans qc.out
  clear xg xh xi zk qc
  obtain ⟨xw, xx, xy, zo, ya⟩ := bk3 qf
  replace qf := Lib.hid qf
  have hB1 : Below w.heap.size w w1 := below_via hb1 (by assumption) (by go_size)
  clear T1 T2
  go_upto_region 4 with fail
  go_upto_region 5 with (first | (have _t := tok3; go_at_call 59; refine (opposite_any x y e _ (by omega)).mono ?_; rintro e w3 ⟨rfl, hb3⟩; clear tok3 _t; have hz3 := hb3.size; (try simp only [sA, sB, sC, sD] at hz3); (try (obtain ⟨kq, jv⟩ := cfAt hb3 (w.heap.size); have zw := kq 0; have zx := kq 1; clear kq; simp [go_sem, *] at zw zx jv)); (try have yz : w.heap.size < w3.heap.size := by omega); (try (obtain ⟨kq, jw⟩ := cfAt hb3 (w.heap.size + 1); have zy := kq 0; have zz := kq 1; have ja := kq 2; clear kq; simp [go_sem, *] at zy zz ja jw)); (try have va : w.heap.size + 1 < w3.heap.size := by omega); (try (obtain ⟨kq, jx⟩ := cfAt hb3 (w.heap.size + 1 + 1); have jb := kq 0; have jc := kq 1; have jd := kq 2; clear kq; simp [go_sem, *] at jb jc jd jx)); (try have vb : w.heap.size + 1 + 1 < w3.heap.size := by omega); (try clear qn qo xj); (try clear zt); (try clear qp qq qr xm); (try clear zu); (try clear qt qu qv xn); (try clear zv); (try clear yo yp vc); (try clear vd); (try clear yr yt yu vf); (try clear vg); (try clear yv yw yx vh); (try clear vi)))
  have qy := (hb3.block (w.heap.size) (blk_lt' qd.out)).trans qd.out
  clear xo xp zm qd
  obtain ⟨je, jf, yb, vj⟩ := bk2 qy
  replace qy := Lib.hid qy
  have qz := (hb3.block (w.heap.size + 1) (blk_lt' qe.out)).trans qe.out
  clear xr xt xu zn qe
  obtain ⟨jg, jh, ji, yc, vk⟩ := bk3 qz
  replace qz := Lib.hid qz
  have xa := (hb3.block (w.heap.size + 1 + 1) (blk_lt' qf.out)).trans qf.out
  clear xw xx xy zo qf
  obtain ⟨jj, jk, jl, yd, vm⟩ := bk3 xa
  replace xa := Lib.hid xa
  have hB3 : Below w.heap.size w w3 := below_via hb3 (by assumption) (by go_size)
  replace qy := qy.out
  replace qz := qz.out
  replace xa := xa.out
  refine chk (fun W => Below w.heap.size w W ∧ W.heap[w.heap.size]? = some (.cells #[.int .i64 A, .int .i64 B] 29 (0, 0)) ∧ W.heap[w.heap.size + 1]? = some (.cells #[.int .i64 x, .int .i64 (-y), .int .i64 e] 45 (0, 0)) ∧ W.heap[w.heap.size + 1 + 1]? = some (.cells #[.int .i64 0, .int .i64 0, .int .i64 0] 45 (0, 0))) (by refine ⟨?_, ?_, ?_, ?_⟩ <;> (exact ck)) ?_
  clear je jf yb qy
  clear jg jh ji yc qz
  clear jj jk jl yd xa
  clear hB3
  rintro w4 ⟨hB4, qg, qh, qi⟩
  obtain ⟨xz, za, zp, ye⟩ := bk2 qg
  replace qg := Lib.hid qg
  obtain ⟨zb, zc, zd, zq, yf⟩ := bk3 qh
  replace qh := Lib.hid qh
  obtain ⟨ze, zg, zh, zr, yg⟩ := bk3 qi
  replace qi := Lib.hid qi
  clear h0 hN hn
  go_upto_region 6 with (first | (have _t := tok5; go_at_call 60; (with_reducible refine ((TM _)).mono ?_); rintro e w5 ⟨v, B5, rfl, hv5, hw5, hb5⟩; clear tok5 _t; have hz5 := hb5.size; (try simp only [sA, sB, sC, sD] at hz5)))
  have qw := (hb5.block (w.heap.size) (blk_lt' qg.out)).trans qg.out
  clear xz za zp qg
  obtain ⟨jm, jn, yh, yi⟩ := bk2 qw
  replace qw := Lib.hid qw
  have qx := (hb5.block (w.heap.size + 1) (blk_lt' qh.out)).trans qh.out
  clear zb zc zd zq qh
  obtain ⟨jo, jp, jq, yj, yl⟩ := bk3 qx
  replace qx := Lib.hid qx
  have qj := (hb5.block (w.heap.size + 1 + 1) (blk_lt' qi.out)).trans qi.out
  clear ze zg zh zr qi
  obtain ⟨qk, ql, qm, ym, yn⟩ := bk3 qj
  replace qj := Lib.hid qj
  have hB5 : Below w.heap.size w w5 := below_via hb5 (by assumption) (by go_size)
  clear TM
  cases r4
  ·have hz : (r1, r2, r3, false) = ((0, 0, 0, false) : P4) := by
    rcases HOK.out with ⟨h, _⟩ | h
    ·cases h
    ·exact h
   obtain ⟨rfl, rfl, rfl⟩ : r1 = 0 ∧ r2 = 0 ∧ r3 = 0 := by simpa using hz
   go_upto_region 7 with fail
   iterate 40 (first | (with_reducible show bodyPost _ _ _ _ _ _) | (with_reducible refine wp_ret ?_) | go_values | go_skip | go_guarded | go_step | go_upon | go_back | skip)
   refine bodyPost_ret (v := .tuple #[.agg #[.int .i64 0, .int .i64 0, .int .i64 0], .bool false]) (by simp [results, Try.results43, go_sem, qk, ql, qm]) rfl ⟨rfl, ?_⟩
   have HO := qj.out
   (exact ck)
  ·by_cases hN0 : N = 0
   ·exfalso; omega
   ·obtain ⟨k, hk⟩ : ∃ k, N = k + 1 := ⟨N - 1, by omega⟩
    obtain ⟨m1, m2, m3⟩ := mlL_at A x (-y) e N k (by omega)
    obtain ⟨g, cap, rfl, c1, c2, c3, d0, d1, d2⟩ := (hv5 rfl).at (i := k) (by omega)
    rw [← hk, HR.out] at m1 m2 m3
    rw [m1] at d0
    rw [m2] at d1
    rw [m3] at d2
    have hk1 : (N : Int) - 1 = k := by omega
    have hk3 : ((N : Int) == 0) = false := by simp; omega
    have hk4 : (k : Int) < N := by omega
    clear hv5 m1 m2 m3
    unfold maxLen at c2
    go_upto_region 8 with fail
    iterate 60 (first | (with_reducible show bodyPost _ _ _ _ _ _) | (with_reducible refine wp_ret ?_) | go_values | go_skip | go_guarded | go_step | go_upon | go_back | skip)
    refine bodyPost_ret (v := .tuple #[.agg #[.int .i64 r1, .int .i64 r2, .int .i64 r3], .bool true]) (by simp [results, Try.results43, go_sem, qk, ql, qm]) rfl ⟨rfl, ?_⟩
    have HO := qj.out
    (exact ck)
 ·have HR := Lib.hid (show ptM A x y e n.natAbs = (r1, r2, r3, r4) by rw [← hr, ptN]; first | rw [if_pos h0] | rw [if_neg h0])
  have hpm : ptB A B x y e = true := by first | exact hp | exact ptB_neg hp
  obtain ⟨N, hN⟩ : ∃ N : Nat, n.natAbs = N := ⟨_, rfl⟩
  have hNb : N ≤ 12 := by omega
  rw [hN] at HR
  obtain rfl : n = (N : Int) := by omega
  have TM := fun W : World => multiples_any A B x y e N W hA hB hpm hNb
  have hok := ptM_ok hA hB hpm N
  unfold NewM at TM
  rw [HR.out] at TM hok
  have HOK := Lib.hid hok
  clear hr hp hok
  have tok1 := trivial
  have tok2 := trivial
  have tok3 := trivial
  have tok4 := trivial
  have tok5 := trivial
  go_enter Try.func43, Try.ntmps43
  go_upto_region 1 with fail
  refine chk (fun W => Below w.heap.size w W ∧ W.heap[w.heap.size]? = some (.cells #[.int .i64 A, .int .i64 B] 29 (0, 0)) ∧ W.heap[w.heap.size + 1]? = some (.cells #[.int .i64 x, .int .i64 y, .int .i64 e] 45 (0, 0)) ∧ W.heap[w.heap.size + 1 + 1]? = some (.cells #[.int .i64 0, .int .i64 0, .int .i64 0] 45 (0, 0))) (by refine ⟨?_, ?_, ?_, ?_⟩ <;> (exact ck)) ?_
  rintro w40 ⟨hB40, qa, qb, qc⟩
  obtain ⟨xb, xc, zi, jr⟩ := bk2 qa
  replace qa := Lib.hid qa
  obtain ⟨xd, xe, xf, zj, jt⟩ := bk3 qb
  replace qb := Lib.hid qb
  obtain ⟨xg, xh, xi, zk, ju⟩ := bk3 qc
  replace qc := Lib.hid qc
  go_upto_region 3 with (first | (have _t := tok1; go_at_call 40; (with_reducible refine ((T1 _).out).mono ?_); rintro e w1 ⟨rfl, hb1⟩; clear tok1 _t; have hz1 := hb1.size; (try simp only [sA, sB, sC, sD] at hz1); (try (obtain ⟨kq, xj⟩ := cfAt hb1 (w.heap.size); have qn := kq 0; have qo := kq 1; clear kq; simp [go_sem, *] at qn qo xj)); (try have zt : w.heap.size < w1.heap.size := by omega); (try (obtain ⟨kq, xm⟩ := cfAt hb1 (w.heap.size + 1); have qp := kq 0; have qq := kq 1; have qr := kq 2; clear kq; simp [go_sem, *] at qp qq qr xm)); (try have zu : w.heap.size + 1 < w1.heap.size := by omega); (try (obtain ⟨kq, xn⟩ := cfAt hb1 (w.heap.size + 1 + 1); have qt := kq 0; have qu := kq 1; have qv := kq 2; clear kq; simp [go_sem, *] at qt qu qv xn)); (try have zv : w.heap.size + 1 + 1 < w1.heap.size := by omega)) | (go_at_call 31; (with_reducible refine ((T2 _).out).mono ?_); rintro e w' ⟨rfl, rfl⟩))
  have qd := (hb1.block (w.heap.size) (blk_lt' qa.out)).trans qa.out
  clear xb xc zi qa
  obtain ⟨xo, xp, zm, jy⟩ := bk2 qd
  replace qd := Lib.hid qd
  have qe := (hb1.block (w.heap.size + 1) (blk_lt' qb.out)).trans qb.out
  clear xd xe xf zj qb
  obtain ⟨xr, xt, xu, zn, jz⟩ := bk3 qe
  replace qe := Lib.hid qe
  have qf := (hb1.block (w.heap.size + 1 + 1) (blk_lt' qc.out)).trans qc.out
  clear xg xh xi zk qc
  obtain ⟨xw, xx, xy, zo, ya⟩ := bk3 qf
  replace qf := Lib.hid qf
  have hB1 : Below w.heap.size w w1 := below_via hb1 (by assumption) (by go_size)
  clear T1 T2
  go_upto_region 5 with fail
  replace qd := qd.out
  replace qe := qe.out
  replace qf := qf.out
  refine chk (fun W => Below w.heap.size w W ∧ W.heap[w.heap.size]? = some (.cells #[.int .i64 A, .int .i64 B] 29 (0, 0)) ∧ W.heap[w.heap.size + 1]? = some (.cells #[.int .i64 x, .int .i64 y, .int .i64 e] 45 (0, 0)) ∧ W.heap[w.heap.size + 1 + 1]? = some (.cells #[.int .i64 0, .int .i64 0, .int .i64 0] 45 (0, 0))) (by refine ⟨?_, ?_, ?_, ?_⟩ <;> (exact ck)) ?_
  clear xo xp zm qd
  clear xr xt xu zn qe
  clear xw xx xy zo qf
  clear hB1
  rintro w4 ⟨hB4, qg, qh, qi⟩
  obtain ⟨xz, za, zp, ye⟩ := bk2 qg
  replace qg := Lib.hid qg
  obtain ⟨zb, zc, zd, zq, yf⟩ := bk3 qh
  replace qh := Lib.hid qh
  obtain ⟨ze, zg, zh, zr, yg⟩ := bk3 qi
  replace qi := Lib.hid qi
  clear h0 hN hn
  go_upto_region 6 with (first | (have _t := tok5; go_at_call 60; (with_reducible refine ((TM _)).mono ?_); rintro e w5 ⟨v, B5, rfl, hv5, hw5, hb5⟩; clear tok5 _t; have hz5 := hb5.size; (try simp only [sA, sB, sC, sD] at hz5)))
  have qw := (hb5.block (w.heap.size) (blk_lt' qg.out)).trans qg.out
  clear xz za zp qg
  obtain ⟨jm, jn, yh, yi⟩ := bk2 qw
  replace qw := Lib.hid qw
  have qx := (hb5.block (w.heap.size + 1) (blk_lt' qh.out)).trans qh.out
  clear zb zc zd zq qh
  obtain ⟨jo, jp, jq, yj, yl⟩ := bk3 qx
  replace qx := Lib.hid qx
  have qj := (hb5.block (w.heap.size + 1 + 1) (blk_lt' qi.out)).trans qi.out
  clear ze zg zh zr qi
  obtain ⟨qk, ql, qm, ym, yn⟩ := bk3 qj
  replace qj := Lib.hid qj
  have hB5 : Below w.heap.size w w5 := below_via hb5 (by assumption) (by go_size)
  clear TM
  cases r4
  ·have hz : (r1, r2, r3, false) = ((0, 0, 0, false) : P4) := by
    rcases HOK.out with ⟨h, _⟩ | h
    ·cases h
    ·exact h
   obtain ⟨rfl, rfl, rfl⟩ : r1 = 0 ∧ r2 = 0 ∧ r3 = 0 := by simpa using hz
   go_upto_region 7 with fail
   iterate 40 (first | (with_reducible show bodyPost _ _ _ _ _ _) | (with_reducible refine wp_ret ?_) | go_values | go_skip | go_guarded | go_step | go_upon | go_back | skip)
   refine bodyPost_ret (v := .tuple #[.agg #[.int .i64 0, .int .i64 0, .int .i64 0], .bool false]) (by simp [results, Try.results43, go_sem, qk, ql, qm]) rfl ⟨rfl, ?_⟩
   have HO := qj.out
   (exact ck)
  ·by_cases hN0 : N = 0
   ·subst hN0
    obtain ⟨rfl, rfl, rfl⟩ : 0 = r1 ∧ 0 = r2 ∧ 0 = r3 := by have := HR.out; simpa [ptM] using this
    go_upto_region 7 with fail
    iterate 40 (first | (with_reducible show bodyPost _ _ _ _ _ _) | (with_reducible refine wp_ret ?_) | go_values | go_skip | go_guarded | go_step | go_upon | go_back | skip)
    refine bodyPost_ret (v := .tuple #[.agg #[.int .i64 0, .int .i64 0, .int .i64 0], .bool true]) (by simp [results, Try.results43, go_sem, qk, ql, qm]) rfl ⟨rfl, ?_⟩
    have HO := qj.out
    (exact ck)
   ·obtain ⟨k, hk⟩ : ∃ k, N = k + 1 := ⟨N - 1, by omega⟩
    obtain ⟨m1, m2, m3⟩ := mlL_at A x y e N k (by omega)
    obtain ⟨g, cap, rfl, c1, c2, c3, d0, d1, d2⟩ := (hv5 rfl).at (i := k) (by omega)
    rw [← hk, HR.out] at m1 m2 m3
    rw [m1] at d0
    rw [m2] at d1
    rw [m3] at d2
    have hk1 : (N : Int) - 1 = k := by omega
    have hk3 : ((N : Int) == 0) = false := by simp; omega
    have hk4 : (k : Int) < N := by omega
    clear hv5 m1 m2 m3
    unfold maxLen at c2
    go_upto_region 8 with fail
    iterate 60 (first | (with_reducible show bodyPost _ _ _ _ _ _) | (with_reducible refine wp_ret ?_) | go_values | go_skip | go_guarded | go_step | go_upon | go_back | skip)
    refine bodyPost_ret (v := .tuple #[.agg #[.int .i64 r1, .int .i64 r2, .int .i64 r3], .bool true]) (by simp [results, Try.results43, go_sem, qk, ql, qm]) rfl ⟨rfl, ?_⟩
    have HO := qj.out
    (exact ck)
end
end Go.Proofs.Ytbnglnbcfabmgaa
