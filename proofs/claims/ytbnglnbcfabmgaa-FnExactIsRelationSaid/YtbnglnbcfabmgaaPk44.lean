/- Lemmas and contracts of functions. No condition. -/
import Derived.Test.YtbnglnbcfabmgaaPk24
import Derived.Test.YtbnglnbcfabmgaaPk33
import Derived.Test.YtbnglnbcfabmgaaPk41
namespace Go.Proofs.Ytbnglnbcfabmgaa
open Go.RowKit
set_option linter.unusedVariables false
set_option maxHeartbeats 16000000
set_option maxRecDepth 20000
set_option linter.unusedSimpArgs false
attribute [local go_sem] openAt openUpon
theorem ptM_fail {A B x y e : Int} (hA : -1000 ≤ A ∧ A ≤ 1000) (hB : -10000 ≤ B ∧ B ≤ 10000) (hp : ptB A B x y e = true) {k : Nat} {a b c : Int} (h : ptM A x y e k = (a, b, c, false)) (j : Nat) (hj : k ≤ j) : ptM A x y e j = (0, 0, 0, false) :=
 ptM_out hA hB hp (by rw [h]) j hj
/-- the numbers of the multiples 1 .. k of a point -/
noncomputable def mlL (A x y e : Int) : Nat → List Int
 | 0 => []
 | k + 1 => mlL A x y e k ++ [(ptM A x y e (k + 1)).1, (ptM A x y e (k + 1)).2.1, (ptM A x y e (k + 1)).2.2.1]
theorem mlL_len (A x y e : Int) : ∀ k, (mlL A x y e k).length = 3 * k
 | 0 => rfl
 | k + 1 => by simp [mlL, mlL_len A x y e k]; omega
theorem mlL_at (A x y e : Int) : ∀ (n k : Nat), k < n → (mlL A x y e n)[k * 3]?.getD 0 = (ptM A x y e (k + 1)).1 ∧ (mlL A x y e n)[k * 3 + 1]?.getD 0 = (ptM A x y e (k + 1)).2.1 ∧ (mlL A x y e n)[k * 3 + 2]?.getD 0 = (ptM A x y e (k + 1)).2.2.1
 | n + 1, k, hk => by
  by_cases h : k < n
  ·obtain ⟨h1, h2, h3⟩ := mlL_at A x y e n k h
   have hl := mlL_len A x y e n
   unfold mlL
   rw [List.getElem?_append_left (by omega), List.getElem?_append_left (by omega), List.getElem?_append_left (by omega)]
   exact ⟨h1, h2, h3⟩
  ·obtain rfl : k = n := by omega
   have hl := mlL_len A x y e k
   unfold mlL
   rw [List.getElem?_append_right (by omega), List.getElem?_append_right (by omega), List.getElem?_append_right (by omega), hl]
   rw [show k * 3 - 3 * k = 0 by omega, show k * 3 + 1 - 3 * k = 1 by omega, show k * 3 + 2 - 3 * k = 2 by omega]
   exact ⟨rfl, rfl, rfl⟩
/-- a row of points that a call has made -/
def OwnP (W : World) (B : Nat) (T : TypeId) (v : Value) (zs : List Int) (k : Nat) : Prop := zs.length = 3 * k ∧ W.ownsRow B T 3 v k (ints zs)
theorem OwnP.below {W W2 : World} {B : Nat} {T : TypeId} {v : Value} {zs : List Int} {k : Nat} (h : OwnP W B T v zs k) (hb : Below W.heap.size W W2) : OwnP W2 B T v zs k :=
 ⟨h.1, h.2.1, h.2.2.imp id fun ⟨g, cap, cur, hv, hB, hg, rest⟩ => ⟨g, cap, cur, hv, hB, (hb.block g (blk_lt' hg)).trans hg, rest⟩⟩
theorem cells3_new (w : World) (x y z : Value) (t : TypeId) : ∀ j u, [x, y, z][j]? = some u → (w.alloc (.cells #[x, y, z] t)).cell? ((⟨w.heap.size, 0, none⟩ : Addr).add j) = some u := by
 intro j u hj
 match j, hj with
 | 0, hj => simp at hj; subst hj; simp [Addr.add]
 | 1, hj => simp at hj; subst hj; simp [Addr.add]
 | 2, hj => simp at hj; subst hj; simp [Addr.add]
theorem OwnP.far {W : World} {B : Nat} {T : TypeId} {v : Value} {zs : List Int} {k : Nat} (h : OwnP W B T v zs k) {g : Nat} (hg : g < B) (o : Nat) (u : Value) : OwnP (W.setCell ⟨g, o, none⟩ u) B T v zs k :=
 ⟨h.1, h.2.1, h.2.2.imp id fun ⟨g', cap, cur, hv, hB, hg', rest⟩ => ⟨g', cap, cur, hv, hB, (Below.heap_setCell W ⟨g, o, none⟩ u g' (fun e => by have e' : g' = g := e; omega)).trans hg', rest⟩⟩
theorem OwnP.nil (W : World) (B : Nat) (T : TypeId) : OwnP W B T (.slice none 0 0) [] 0 := ⟨rfl, World.ownsRow_nil _ _ _ _⟩
theorem OwnP.at {W : World} {B : Nat} {T : TypeId} {v : Value} {zs : List Int} {k : Nat} (h : OwnP W B T v zs k) {i : Nat} (hi : i < k) : ∃ g cap, v = .slice (some ⟨g, 0, none⟩) k cap ∧ k ≤ cap ∧ cap ≤ maxLen ∧ g < W.heap.size ∧
  W.cell? ⟨g, i * 3, none⟩ = some (.int .i64 (zs[i * 3]?.getD 0)) ∧ W.cell? ⟨g, i * 3 + 1, none⟩ = some (.int .i64 (zs[i * 3 + 1]?.getD 0)) ∧ W.cell? ⟨g, i * 3 + 2, none⟩ = some (.int .i64 (zs[i * 3 + 2]?.getD 0)) := by
 obtain ⟨hl, hx, h⟩ := h
 rcases h with ⟨_, h2⟩ | ⟨g, cap, cur, hv, hB, hg, hnc, hcm, hcs, ht⟩
 ·omega
 ·have hc : ∀ j, j < 3 * k → W.cell? ⟨g, j, none⟩ = some (.int .i64 (zs[j]?.getD 0)) := fun j hj => by
   rw [cell_of_row W g j cur T (0, 0) hg]
   have h3 : (ints zs)[j]? = cur[j]? := by rw [← ht, List.getElem?_take, if_pos (by omega)]; simp
   rw [← h3, ints_at zs j (by omega), List.getD_eq_getElem?_getD]
  exact ⟨g, cap, hv, hnc, hcm, blk_lt' hg, hc _ (by omega), hc _ (by omega), hc _ (by omega)⟩
/-- the loop's state: k multiples are laid, all of them points -/
def MlRel (w : World) (A B x y e : Int) (N : Nat) (iv ov : Value) (wr : World) : Prop := ∃ (k : Nat) (v : Value) (a b c : Int), iv = .int .i64 k ∧ v = ov ∧ k ≤ N ∧ ptM A x y e k = (a, b, c, true) ∧ OwnP wr (w.heap.size + 3) 45 v (mlL A x y e k) k ∧
 wr.heap[w.heap.size]? = some (.cells #[.int .i64 A, .int .i64 B] 29 (0, 0)) ∧ wr.heap[w.heap.size + 1]? = some (.cells #[.int .i64 x, .int .i64 y, .int .i64 e] 45 (0, 0)) ∧
 wr.heap[w.heap.size + 2]? = some (.cells #[.int .i64 a, .int .i64 b, .int .i64 c] 45 (0, 0)) ∧ Below w.heap.size w wr
def NewM (w : World) (A x y e : Int) (N : Nat) (r : Ending) (w' : World) : Prop := ∃ (v : Value) (B : Nat), r = .returned (.tuple #[v, .bool (ptM A x y e N).2.2.2]) ∧ ((ptM A x y e N).2.2.2 = true → OwnP w' B 45 v (mlL A x y e N) N) ∧ w.heap.size ≤ B ∧ Below w.heap.size w w'
theorem multiples_any (A B x y e : Int) (N : Nat) (w : World) (hA : -1000 ≤ A ∧ A ≤ 1000) (hB : -10000 ≤ B ∧ B ≤ 10000) (hp : ptB A B x y e = true) (hN : N ≤ 12) :
  Calls Try.prog 60 #[.agg #[.int .i64 A, .int .i64 B], .agg #[.int .i64 x, .int .i64 y, .int .i64 e], .int .i64 N] w (NewM w A x y e N) := by
 obtain ⟨i0, hi, iz0, iz1, iz2⟩ := info_parts infoPoint
 have tok1 := trivial
 have tok2 := trivial
 have tok3 := trivial
 go_enter Try.func60, Try.ntmps60
 go_upto_region 3 with fail
 refine chk (fun W => Below w.heap.size w W ∧ W.heap[w.heap.size]? = some (.cells #[.int .i64 A, .int .i64 B] 29 (0, 0)) ∧ W.heap[w.heap.size + 1]? = some (.cells #[.int .i64 x, .int .i64 y, .int .i64 e] 45 (0, 0)) ∧ W.heap[w.heap.size + 2]? = some (.cells #[.int .i64 0, .int .i64 0, .int .i64 0] 45 (0, 0))) (by refine ⟨?_, ?_, ?_, ?_⟩ <;> (exact ck)) ?_
 rintro w1 ⟨hB1, qa, qb, qc⟩
 obtain ⟨qq, qr, zg, jg⟩ := bk2 qa
 replace qa := Lib.hid qa
 obtain ⟨qt, qu, qv, zh, jh⟩ := bk3 qb
 replace qb := Lib.hid qb
 obtain ⟨qw, qx, qy, zi, ji⟩ := bk3 qc
 replace qc := Lib.hid qc
 have hs1 := hB1.size
 go_wp2_with fail
 go_loopw [14, 8] (fun iv ov wr => MlRel w A B x y e N iv ov wr) (fun iv _ _ => (N - intOf iv).toNat)
 case atStart => exact ⟨0, _, 0, 0, 0, rfl, rfl, by omega, rfl, OwnP.nil _ _ _, qa.out, qb.out, qc.out, hB1⟩
 case round =>
  obtain ⟨k, v, a, b, c, rfl, rfl, hk, hm, ho, hC, hP, hS, hbw⟩ := hrel
  have HM := Lib.hid hm
  have HO0 := Lib.hid ho
  have hsw := hbw.size
  clear hm ho
  by_cases hlt : k < N
  ·have hltc : (k : Int) < (N : Int) := by omega
   have hok := ptM_ok hA hB hp k
   rw [HM.out] at hok
   have hpk : ptB A B a b c = true := by rcases hok with ⟨_, h⟩ | h; exact h; simp at h
   have hst := ptM_step (show (ptM A x y e k).2.2.2 = true by rw [HM.out])
   rw [HM.out] at hst
   have TA := fun W : World => addPoints_any A B a b c x y e W hA hB hpk hp
   obtain ⟨a2, b2, c2, ok, hq⟩ := pt4 (ptS A a b c x y e)
   simp only [hq] at TA hst
   have HST := Lib.hid hst
   clear hok hpk hst hq
   go_upto_region 5 with fail
   replace qa := qa.out
   replace qb := qb.out
   replace qc := qc.out
   refine chk (fun W => Below w.heap.size w W ∧ W.heap[w.heap.size]? = some (.cells #[.int .i64 A, .int .i64 B] 29 (0, 0)) ∧ W.heap[w.heap.size + 1]? = some (.cells #[.int .i64 x, .int .i64 y, .int .i64 e] 45 (0, 0)) ∧ W.heap[w.heap.size + 2]? = some (.cells #[.int .i64 a, .int .i64 b, .int .i64 c] 45 (0, 0)) ∧ Below wr.heap.size wr W) (by refine ⟨?_, ?_, ?_, ?_, ?_⟩ <;> (exact ck)) ?_
   clear qq qr zg qa
   clear qt qu qv zh qb
   clear qw qx qy zi qc
   clear hB1
   rintro w2 ⟨hB2, qd, qe, qf, hbr⟩
   obtain ⟨qz, xa, zj, jj⟩ := bk2 qd
   replace qd := Lib.hid qd
   obtain ⟨xb, xc, xd, zk, jk⟩ := bk3 qe
   replace qe := Lib.hid qe
   obtain ⟨xe, xf, xg, zm, jl⟩ := bk3 qf
   replace qf := Lib.hid qf
   clear hC hP hS
   go_upto_region 6 with (first | (have _t := tok3; go_at_call 44; (with_reducible refine ((TA _)).mono ?_); rintro e w3 ⟨rfl, hb3⟩; clear tok3 _t; have hz3 := hb3.size; (try simp only [sA, sB, sC, sD] at hz3)))
   have qg := (hb3.block (w.heap.size) (blk_lt' qd.out)).trans qd.out
   clear qz xa zj qd
   obtain ⟨xh, xi, zn, jm⟩ := bk2 qg
   replace qg := Lib.hid qg
   have qh := (hb3.block (w.heap.size + 1) (blk_lt' qe.out)).trans qe.out
   clear xb xc xd zk qe
   obtain ⟨xj, xm, xn, zo, jn⟩ := bk3 qh
   replace qh := Lib.hid qh
   have qi := (hb3.block (w.heap.size + 2) (blk_lt' qf.out)).trans qf.out
   clear xe xf xg zm qf
   obtain ⟨xo, xp, xr, zp, jo⟩ := bk3 qi
   replace qi := Lib.hid qi
   have hB3 : Below w.heap.size w w3 := below_via hb3 (by assumption) (by go_size)
   have hbr3 := below_via hb3 hbr (by have := hbr.size; omega)
   have hbz3 := hbr3.size
   replace qg := qg.out
   replace qh := qh.out
   replace qi := qi.out
   refine chk (fun W => Below w.heap.size w W ∧ W.heap[w.heap.size]? = some (.cells #[.int .i64 A, .int .i64 B] 29 (0, 0)) ∧ W.heap[w.heap.size + 1]? = some (.cells #[.int .i64 x, .int .i64 y, .int .i64 e] 45 (0, 0)) ∧ W.heap[w.heap.size + 2]? = some (.cells #[.int .i64 a, .int .i64 b, .int .i64 c] 45 (0, 0)) ∧ W.heap[w3.heap.size]? = some (.cells #[.int .i64 a2, .int .i64 b2, .int .i64 c2] 45 (0, 0)) ∧ Below wr.heap.size wr W) (by refine ⟨?_, ?_, ?_, ?_, ?_, ?_⟩ <;> (exact ck)) ?_
   clear xh xi zn qg
   clear xj xm xn zo qh
   clear xo xp xr zp qi
   clear hB3
   rintro w4 ⟨hB4, qj, qk, ql, qm, hbr4⟩
   obtain ⟨xt, xu, zq, jp⟩ := bk2 qj
   replace qj := Lib.hid qj
   obtain ⟨xw, xx, xy, zr, jq⟩ := bk3 qk
   replace qk := Lib.hid qk
   obtain ⟨xz, za, zb, zt, jr⟩ := bk3 ql
   replace ql := Lib.hid ql
   obtain ⟨zc, zd, ze, zu, jt⟩ := bk3 qm
   replace qm := Lib.hid qm
   clear hbr3 hbr hbz3
   have ho4 := HO0.out.below hbr4
   have HO4 := Lib.hid ho4
   clear ho4 HO0
   cases ok
   ·have hR := ptM_fail hA hB hp HST.out N (by omega)
    go_upto_region 7 with fail
    go_wp2_with fail
    go_ret2
    refine ⟨.slice none 0 0, w.heap.size, by rw [hR]; rfl, fun h => (by rw [hR] at h; cases h), Nat.le_refl _, hB4⟩
   ·have HML := Lib.hid (show mlL A x y e (k + 1) = mlL A x y e k ++ [a2, b2, c2] by simp only [mlL, HST.out])
    go_upto_region 9 with fail
    have hf5 := ((HO4.out.far (g := w.heap.size + 1 + 1) (by omega) 0 (.int .i64 a2)).far (g := w.heap.size + 1 + 1) (by omega) 1 (.int .i64 b2)).far (g := w.heap.size + 1 + 1) (by omega) 2 (.int .i64 c2)
    replace qj := qj.out
    replace qk := qk.out
    replace ql := ql.out
    replace qm := qm.out
    refine chk (fun W => Below w.heap.size w W ∧ W.heap[w.heap.size]? = some (.cells #[.int .i64 A, .int .i64 B] 29 (0, 0)) ∧ W.heap[w.heap.size + 1]? = some (.cells #[.int .i64 x, .int .i64 y, .int .i64 e] 45 (0, 0)) ∧ W.heap[w.heap.size + 2]? = some (.cells #[.int .i64 a2, .int .i64 b2, .int .i64 c2] 45 (0, 0)) ∧ OwnP W (w.heap.size + 3) 45 v (mlL A x y e k) k) (by refine ⟨?_, ?_, ?_, ?_, ?_⟩ <;> (exact ck)) ?_
    clear xt xu zq qj
    clear xw xx xy zr qk
    clear xz za zb zt ql
    clear zc zd ze zu qm
    clear hB4
    rintro w5 ⟨hB5, qn, qo, qp, ho5⟩
    obtain ⟨zy, zz, ju, zv⟩ := bk2 qn
    replace qn := Lib.hid qn
    obtain ⟨ja, jb, jc, jv, zw⟩ := bk3 qo
    replace qo := Lib.hid qo
    obtain ⟨jd, je, jf, jw, zx⟩ := bk3 qp
    replace qp := Lib.hid qp
    have HO := Lib.hid ho5
    clear ho5 hf5 HO4
    have hl5 : w.heap.size + 3 ≤ w5.heap.size := by omega
    go_wp2_with (first | (at_builtin; refine wpList_append_own_at _ rfl _ _ 31 rfl (w.heap.size + 3) 45 i0 (.agg #[.int .i64 0, .int .i64 0, .int .i64 0]) 3 24 Try.underlying31 hi iz0 iz1 iz2 rfl (by decide) v k _ rfl (HO.out.2.alloc _) ⟨w5.heap.size, 0, none⟩ 1 1 [_, _, _] rfl rfl (cells3_new _ _ _ _ _) (by simp [Value.oneCell']) (by unfold maxLen; omega) (by omega) (by simp; omega) ?_; intro v1 w6 hv1 hg1 _ hat))
    go_roundw
    case rel =>
     refine ⟨k + 1, v1, a2, b2, c2, by go_num, rfl, by omega, HST.out, ?_, ?_, ?_, ?_, ?_⟩
     ·refine ⟨by rw [mlL_len], ?_⟩
      rw [HML.out, ints_append]
      simpa [ints] using hv1
     ·have q1 := qn.out
      exact (hg1.block _ (Nat.lt_of_lt_of_le zv (by simp)) (fun h => by have := (HO.out.2.lt _ h.symm).1; omega)).trans (bx_old q1 _)
     ·have q1 := qo.out
      exact (hg1.block _ (Nat.lt_of_lt_of_le zw (by simp)) (fun h => by have := (HO.out.2.lt _ h.symm).1; omega)).trans (bx_old q1 _)
     ·have q1 := qp.out
      exact (hg1.block _ (Nat.lt_of_lt_of_le zx (by simp)) (fun h => by have := (HO.out.2.lt _ h.symm).1; omega)).trans (bx_old q1 _)
     ·exact (hB5.alloc (by have := hB5.size; omega) _).grown hg1 (by simp; have := hB5.size; omega) (fun j h => by have := (HO.out.2.lt _ h).1; omega)
    case measure => simp [intOf]; omega
  ·obtain rfl : k = N := by omega
   clear hC hP hS
   go_wp2_with fail
   go_ret2
   refine ⟨v, w.heap.size + 3, by rw [HM.out]; rfl, fun _ => HO0.out, by omega, hbw⟩
end Go.Proofs.Ytbnglnbcfabmgaa
