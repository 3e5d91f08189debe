/- Lemmas and contracts of functions. No condition. -/
import Derived.Test.YtbnglnbcfabmgaaPf3
import Derived.Test.YtbnglnbcfabmgaaPf13
import Derived.Test.YtbnglnbcfabmgaaPf15
import Derived.Test.YtbnglnbcfabmgaaPf39
namespace Go.Proofs.Ytbnglnbcfabmgaa
open Go.RowKit
set_option linter.unusedVariables false
set_option maxHeartbeats 4000000
set_option maxRecDepth 20000
set_option linter.unusedSimpArgs false
attribute [local go_sem] openAt openUpon
theorem toPointS_own (a : Option Addr) (n c : Nat) (zs : List Int) (w : World) (h : Px w a n c zs) (hn : n ≤ 1048576) : Calls Try.prog 8 #[.slice a n c] w fun e w' =>
  e = .returned (.slice (some ⟨w.heap.size, 0, none⟩) n n) ∧ w'.heap[w.heap.size]? = some (.cells (ints zs).toArray 45 (0, 0)) ∧ Below w.heap.size w w' := by
 obtain ⟨i0, hi, hz0, hz1, hz2⟩ := info_parts infoPoint
 have hln := Lib.hid h.len
 have hnm : n ≤ maxLen := by unfold maxLen; omega
 have tok1 := trivial
 go_enter Try.func8, Try.ntmps8
 go_wp2_with (first | (at_make; refine wpList_make_full _ rfl _ _ 31 rfl w.heap.size 45 i0 (.agg #[.int .i64 0, .int .i64 0, .int .i64 0]) 3 Try.underlying31 hi hz0 hz1 .i64 .i64 _ _ n rfl rfl rfl rfl (by rw [hz2]; omega) (by unfold maxLen; omega) (by simp) ?_; intro W0 hm0 hg0; have hr0 := made_points hm0; have hb0 := made_below (B := w.heap.size) (a := w) bel hg0 (by simp; try omega); clear hm0 hg0))
 go_loopw [4] (fun iv wr => CpRel w 45 zs n iv wr) (fun iv _ => (n - intOf iv).toNat)
 case atStart => exact ⟨0, List.replicate (3 * n) 0, rfl, by omega, by simp, fun j hj => by omega, hr0, hb0⟩
 case round =>
  obtain ⟨k, qs, rfl, hk, hq, hp, hrow, hbw⟩ := hrel
  have hsw := hbw.size
  have HP := Lib.hid hp
  have HQ := Lib.hid hq
  clear hp hq
  by_cases h0 : k < n
  ·obtain ⟨b, off, rfl, hb, hcs⟩ := h.at (by omega)
   have c0 := (hbw.cell (p := ⟨b, off + k * 3, none⟩) hb).trans (hcs (k * 3) (by omega))
   have c1 := (hbw.cell (p := ⟨b, off + k * 3 + 1, none⟩) hb).trans (hcs (k * 3 + 1) (by omega))
   have c2 := (hbw.cell (p := ⟨b, off + k * 3 + 2, none⟩) hb).trans (hcs (k * 3 + 2) (by omega))
   have hk2 : (k : Int) < (n : Int) := by omega
   clear hcs
   go_wp2_with (first | (have _t := tok1; go_at_call 21; refine (toPoint_any _ _ _ _).mono ?_; rintro e w1 ⟨rfl, hb1⟩; clear tok1 _t; have hz1 := hb1.size; (try simp only [sA, sB, sC, sD] at hz1); have hr1 := (hb1.block _ (blk_lt' hrow)).trans hrow; have d0 := row_at hr1 (j := k * 3) (by have := HQ.out; omega); have d1 := row_at hr1 (j := k * 3 + 1) (by have := HQ.out; omega); have d2 := row_at hr1 (j := k * 3 + 2) (by have := HQ.out; omega); have d3 := fun o => row_free hr1 o))
   go_roundw
   case rel => exact ⟨k + 1, _, by go_num, by omega, by simp [HQ.out], pts_next hln.out HQ.out h0 HP.out, row_set (row_set (row_set hr1 _ _) _ _) _ _, by exact bel⟩
   case measure => simp [intOf]; omega
  ·obtain rfl : k = n := by omega
   go_wp2_with (first | (have _t := tok1; go_at_call 21; refine (toPoint_any _ _ _ _).mono ?_; rintro e w1 ⟨rfl, hb1⟩; clear tok1 _t; have hz1 := hb1.size; (try simp only [sA, sB, sC, sD] at hz1); have hr1 := (hb1.block _ (blk_lt' hrow)).trans hrow; have d0 := row_at hr1 (j := k * 3) (by have := HQ.out; omega); have d1 := row_at hr1 (j := k * 3 + 1) (by have := HQ.out; omega); have d2 := row_at hr1 (j := k * 3 + 2) (by have := HQ.out; omega); have d3 := fun o => row_free hr1 o))
   go_ret
   refine ⟨rfl, ?_⟩
   have e := pts_all hln.out HQ.out HP.out
   subst e
   exact ⟨hrow, hbw⟩
theorem Sx.keepB {W W2 : World} {a : Option Addr} {n c G : Nat} {zs : List Int} (h : Sx W a n c zs) (hlt : 0 < n → ∀ A, a = some A → A.block < G) (hk : ∀ i, i < G → i < W.heap.size → W2.heap[i]? = W.heap[i]?) (hs : W.heap.size ≤ W2.heap.size) : Sx W2 a n c zs :=
 ⟨h.len, h.cap, h.max, h.nil, fun h0 => by
  obtain ⟨b, off, h1, h2, h3⟩ := h.row h0
  have hb := hlt (by have := h.len; omega) _ h1
  exact ⟨b, off, h1, Nat.lt_of_lt_of_le h2 hs, fun j hj => (World.cell?_of_block (a := ⟨b, off + j, Option.none⟩) (hk b hb h2)).trans (h3 j hj)⟩⟩
theorem Sx.lt {W : World} {a : Option Addr} {n c : Nat} {zs : List Int} (h : Sx W a n c zs) : 0 < n → ∀ A, a = some A → A.block < W.heap.size := fun h0 A e => by
 obtain ⟨b, off, h1, h2, h3⟩ := h.row (by have := h.len; omega)
 rw [e] at h1
 obtain rfl := Option.some.inj h1
 exact h2
theorem OwnI.keepN {W V : World} {B gx : Nat} {T : TypeId} {v : Value} {zs : List Int} (h : OwnI W B T v zs) (hg : W.grownBy V (some gx)) (hB : gx < B) : OwnI V B T v zs :=
 ⟨h.1, h.2.imp id fun ⟨g, cap, cur, hv, hb, hh, rest⟩ => ⟨g, cap, cur, hv, hb, (hg.block g (blk_lt' hh) (fun e => by have := Option.some.inj e; omega)).trans hh, rest⟩⟩
theorem slx_row {W : World} {g n : Nat} {zs : List Int} {T : TypeId} (h : W.heap[g]? = some (.cells (ints zs).toArray T (0, 0))) (hn : zs.length = 3 * n) (hm : n ≤ maxLen) : SlX W 0 3 (.slice (some ⟨g, 0, none⟩) n n) n zs :=
 ⟨hn, .inr ⟨g, n, rfl, Nat.le_refl _, hm, Nat.zero_le _, rowX_blk h rfl⟩⟩
theorem frL_len (A B : Int) (zs : List Int) (n : Nat) (M : Int) : (frL A B zs n M).length ≤ 3 := by
 unfold frL
 split
 ·rename_i h
  obtain ⟨_, hn, m, rfl, hm⟩ := fqB_out h
  rw [show ((m : Int).toNat) = m by omega, fd_same hm hn]
  rcases fdX_len (p := rlB A B zs n) (m := m) (n := n) ((2 * m + 1) ^ n) 0 with e | e <;> rw [e]
  ·simp
  ·omega
 ·simp
theorem FnExactFindRelation_any (A B : Int) (a : Option Addr) (n c : Nat) (zs : List Int) (M : Int) (w : World) (h : Px w a n c zs) :
  Calls Try.prog 4 #[.agg #[.int .i64 A, .int .i64 B], .slice a n c, .int .i64 M] w fun e w' => e = .returned (.bool true) ∧ Below w.heap.size w w' := by
 have hlm : n ≤ maxLen := Nat.le_trans h.cap h.max
 have T1 := fun W : World => Lib.hid (szPointS_any a n c 1048576 W hlm (by omega) (by omega))
 by_cases hl : (1048576 : Int) - n < 0
 ·rw [if_pos hl] at T1
  clear hl hlm
  have tok1 := trivial
  have tok2 := trivial
  have tok3 := trivial
  have tok4 := trivial
  have tok5 := trivial
  have tok6 := trivial
  have tok7 := trivial
  have tok8 := trivial
  have tok9 := trivial
  have tok10 := trivial
  have tok11 := trivial
  have tok12 := trivial
  have tok13 := trivial
  have tok14 := trivial
  have tok15 := trivial
  have tok16 := trivial
  have tok17 := trivial
  have tok18 := trivial
  have tok19 := trivial
  have tok20 := trivial
  have tok21 := trivial
  have tok22 := trivial
  have tok23 := trivial
  have tok24 := trivial
  have tok25 := trivial
  have tok26 := trivial
  have tok27 := trivial
  have tok28 := trivial
  have tok29 := trivial
  have tok30 := trivial
  have tok31 := trivial
  have tok32 := trivial
  go_enter Try.func4, Try.ntmps4
  go_wp2_with (first | (go_at_call 5; (with_reducible refine ((T1 _).out).mono ?_); rintro e w' ⟨rfl, rfl⟩))
  go_ret
  refine ⟨rfl, ?_⟩
  exact bel
 ·rw [if_neg hl] at T1
  have hn : n ≤ 1048576 := by omega
  have HZ := Lib.hid h.len
  have HMX := Lib.hid hlm
  have CS := fun (W : World) (a : Option Addr) (c : Nat) (h : Px W a n c zs) => Lib.hid (show Calls Try.prog 13 #[.agg #[.int .i64 A, .int .i64 B], .slice a n c, .int .i64 M] W fun r w' => ∃ a' c', r = .returned (.tuple #[.slice a' (frL A B zs n M).length c', .bool (decide (0 < (frL A B zs n M).length))]) ∧ Sx w' a' (frL A B zs n M).length c' (frL A B zs n M) ∧ Below W.heap.size W w' from
   (sFindRelation_any A B a n c zs M W h).mono fun r w' ⟨a', k, c', h1, h2, h3⟩ => by
    have hk := h2.len
    subst hk
    exact ⟨a', c', h1, h2, h3⟩)
  have CI := fun (W : World) (a : Option Addr) (c : Nat) (h : Px W a n c zs) => Lib.hid (show Calls Try.prog 14 #[.agg #[.int .i64 A, .int .i64 B], .slice a n c, .int .i64 M] W fun r w' => ∃ a' c', r = .returned (.tuple #[.slice a' (frL A B zs n M).length c', .bool (decide (0 < (frL A B zs n M).length))]) ∧ OwnI w' W.heap.size 3 (.slice a' (frL A B zs n M).length c') (frL A B zs n M) ∧ Below W.heap.size W w' from
   (FindRelation_any A B a n c zs M W h).mono fun r w' ⟨v, h1, h2, h3⟩ => by
    obtain ⟨a', c', rfl, -, -⟩ := Sx.of_owns h2
    exact ⟨a', c', h1, h2, h3⟩)
  have TS := fun (W : World) (hW : Below w.heap.size w W) => Lib.hid (toPointS_own a n c zs W (h.below hW) hn)
  have hll := frL_len A B zs n M
  generalize hv : (1048576 : Int) - n = v at *
  generalize frL A B zs n M = L at *
  generalize decide (0 < L.length) = ok at *
  clear hlm hv h
  have hbb : (ok != ok) = false := by simp
  have hn0 : decide ((1 : Int) + 3 * (n : Int) < 0) = false := by simp; omega
  have hn1 : decide ((1 : Int) + (L.length : Int) < 0) = false := by simp; omega
  have hqq : ((1 : Int) + (L.length : Int) != (1 : Int) + (L.length : Int)) = false := by simp
  have tok1 := trivial
  have tok2 := trivial
  have tok3 := trivial
  have tok4 := trivial
  have tok5 := trivial
  have tok6 := trivial
  have tok7 := trivial
  have tok8 := trivial
  have tok9 := trivial
  have tok10 := trivial
  have tok11 := trivial
  have tok12 := trivial
  have tok13 := trivial
  have tok14 := trivial
  have tok15 := trivial
  have tok16 := trivial
  have tok17 := trivial
  have tok18 := trivial
  have tok19 := trivial
  have tok20 := trivial
  have tok21 := trivial
  have tok22 := trivial
  have tok23 := trivial
  have tok24 := trivial
  have tok25 := trivial
  have tok26 := trivial
  have tok27 := trivial
  have tok28 := trivial
  have tok29 := trivial
  have tok30 := trivial
  have tok31 := trivial
  have tok32 := trivial
  go_enter Try.func4, Try.ntmps4
  go_upto_region 1 with fail
  refine chk (fun W => Below w.heap.size w W ∧ W.heap[w.heap.size]? = some (.cells #[.int .i64 A, .int .i64 B] 23 (0, 0))) (by refine ⟨?_, ?_⟩ <;> (exact ck)) ?_
  rintro w1 ⟨hB1, qf⟩
  obtain ⟨qu, qv, xh, xw⟩ := bk2 qf
  replace qf := Lib.hid qf
  go_upto_region 5 with (first | (go_at_call 5; (with_reducible refine ((T1 _).out).mono ?_); rintro e w' ⟨rfl, rfl⟩))
  go_upto_region 6 with (first | (have _t := tok2; go_at_call 7; refine (toCurve_any _ _ _).mono ?_; rintro e w2 ⟨rfl, hb2⟩; clear tok2 _t; have hz2 := hb2.size; (try simp only [sA, sB, sC, sD] at hz2)) | (have _t := tok3; go_at_call 8; (with_reducible refine ((TS _ (below_via hb2 hB1 hB1.size)).out).mono ?_); rintro e w3 ⟨rfl, hr3, hb3⟩; clear tok3 _t; have hz3 := hb3.size; (try simp only [sA, sB, sC, sD] at hz3)) | (have _t := tok4; go_at_call 13; (with_reducible refine ((CS _ _ _ (Px.of_row hr3 HZ.out HMX.out)).out).mono ?_); rintro e w4 ⟨a4, c4, rfl, hs4, hb4⟩; clear tok4 _t; have hz4 := hb4.size; (try simp only [sA, sB, sC, sD] at hz4)))
  have hC4 := keepW hb4 (keepW hb3 (keepW hb2 qf.out))
  have hB4 := below_via hb4 (below_via hb3 (below_via hb2 hB1 hB1.size) (by have := hB1.size; have := hb2.size; omega)) (by have := hB1.size; have := hb2.size; have := hb3.size; omega)
  clear hb2 hb3 hb4 hr3 T1
  replace qf := qf.out
  refine chk (fun W => Below w.heap.size w W ∧ W.heap[w.heap.size]? = some (.cells #[.int .i64 A, .int .i64 B] 23 (0, 0)) ∧ Sx W a4 L.length c4 L) (by refine ⟨?_, ?_, ?_⟩ <;> (exact ck)) ?_
  clear qu qv xh qf
  clear hB1
  rintro w5 ⟨hB5, qg, hw0⟩
  obtain ⟨qw, qx, xi, xx⟩ := bk2 qg
  replace qg := Lib.hid qg
  clear hC4 hB4 hs4
  have hlt0 := hw0.lt
  have hs5 := hB5.size
  go_upto_region 7 with (first | (have _t := tok6; go_at_call 8; (with_reducible refine ((TS _ hB5).out).mono ?_); rintro e w6 ⟨rfl, hr6, hb6⟩; clear tok6 _t; have hz6 := hb6.size; (try simp only [sA, sB, sC, sD] at hz6)))
  have hC6 := keepW hb6 qg.out
  have hw6 := hw0.below hb6
  have hB6 := below_via hb6 hB5 hs5
  replace qg := qg.out
  refine chk (fun W => Below w.heap.size w W ∧ W.heap[w.heap.size]? = some (.cells #[.int .i64 A, .int .i64 B] 23 (0, 0)) ∧ W.heap[w5.heap.size]? = some (.cells (ints zs).toArray 45 (0, 0)) ∧ Sx W a4 L.length c4 L) (by refine ⟨?_, ?_, ?_, ?_⟩ <;> (exact ck)) ?_
  clear qw qx xi qg
  clear hB5
  rintro w7 ⟨hB7, qh, hx1, hw1⟩
  obtain ⟨qy, qz, xj, xy⟩ := bk2 qh
  replace qh := Lib.hid qh
  clear hC6 hw6 hB6 hr6 hb6 hw0
  generalize w5.heap.size = gx at *
  have hgx := blk_lt' hx1
  have hs7 := hB7.size
  go_upto_region 8 with (first | (have _t := tok8; go_at_call 7; refine (toCurve_any _ _ _).mono ?_; rintro e w8 ⟨rfl, hb8⟩; clear tok8 _t; have hz8 := hb8.size; (try simp only [sA, sB, sC, sD] at hz8)) | (have _t := tok9; go_at_call 14; (with_reducible refine ((CI _ _ _ (Px.of_row (keepW hb8 hx1) HZ.out HMX.out)).out).mono ?_); rintro e w9 ⟨a9, c9, rfl, ho9, hb9⟩; clear tok9 _t; have hz9 := hb9.size; (try simp only [sA, sB, sC, sD] at hz9)))
  have hC9 := keepW hb9 (keepW hb8 qh.out)
  have hb89 := below_via hb9 hb8 hb8.size
  have hw9 := hw1.below hb89
  have hx9 := keepW hb89 hx1
  have hB9 := below_via hb89 hB7 hs7
  have ho7 := ho9.low (show w7.heap.size ≤ w8.heap.size from hb8.size)
  clear hb8 hb9 ho9
  replace qh := qh.out
  refine chk (fun W => Below w.heap.size w W ∧ W.heap[w.heap.size]? = some (.cells #[.int .i64 A, .int .i64 B] 23 (0, 0)) ∧ W.heap[gx]? = some (.cells (ints zs).toArray 45 (0, 0)) ∧ Sx W a4 L.length c4 L ∧ OwnI W w7.heap.size 3 (.slice a9 L.length c9) L) (by refine ⟨?_, ?_, ?_, ?_, ?_⟩ <;> (exact ck)) ?_
  clear qy qz xj qh
  clear hB7
  rintro w10 ⟨hB10, qa, hx1', hw0, hg0⟩
  obtain ⟨qj, qk, xa, xo⟩ := bk2 qa
  replace qa := Lib.hid qa
  clear hC9 hb89 hw9 hx9 hB9 ho7 hx1 hw1
  have hx1 := hx1'
  clear hx1'
  generalize w7.heap.size = gb at *
  have hsg : Sx w10 a9 L.length c9 L := by
   obtain ⟨a', c', e, h2, -⟩ := Sx.of_owns hg0
   simp only [Value.slice.injEq, true_and] at e
   obtain ⟨rfl, rfl⟩ := e
   exact h2
  go_upto_region 13 with (first | (have _t := tok11; go_at_call 12; refine (eqIntS_same hsg hw0).mono ?_; rintro e w11 ⟨rfl, hb11⟩; clear tok11 _t; have hz11 := hb11.size; (try simp only [sA, sB, sC, sD] at hz11)) | (have _t := tok12; go_at_call 8; (with_reducible refine ((TS _ (below_via hb11 hB10 hB10.size)).out).mono ?_); rintro e w12 ⟨rfl, hr12, hb12⟩; clear tok12 _t; have hz12 := hb12.size; (try simp only [sA, sB, sC, sD] at hz12)) | (have _t := tok13; go_at_call 11; refine (eqPointS_same _ _ _ _ _ _ _ _ (Px.of_row (keepW hb12 (keepW hb11 hx1)) HZ.out HMX.out) (Px.of_row hr12 HZ.out HMX.out)).mono ?_; rintro e w13 ⟨rfl, hb13⟩; clear tok13 _t; have hz13 := hb13.size; (try simp only [sA, sB, sC, sD] at hz13)))
  have hb1 := below_via hb13 (below_via hb12 hb11 hb11.size) (Nat.le_trans hb11.size hb12.size)
  have hC13 := keepW hb1 qa.out
  have hx13 := keepW hb1 hx1
  have hw13 := hw0.below hb1
  have hg13 := hg0.below hb1
  have hB13 := below_via hb1 hB10 hB10.size
  clear hb11 hb12 hb13 hr12
  replace qa := qa.out
  refine chk (fun W => Below w.heap.size w W ∧ W.heap[w.heap.size]? = some (.cells #[.int .i64 A, .int .i64 B] 23 (0, 0)) ∧ W.heap[gx]? = some (.cells (ints zs).toArray 45 (0, 0)) ∧ Sx W a4 L.length c4 L ∧ OwnI W gb 3 (.slice a9 L.length c9) L) (by refine ⟨?_, ?_, ?_, ?_, ?_⟩ <;> (exact ck)) ?_
  clear qj qk xa qa
  clear hB10
  rintro w14 ⟨hB14, qb, hx2, hw2, hg2⟩
  obtain ⟨ql, qm, xb, xc⟩ := bk2 qb
  replace qb := Lib.hid qb
  clear hC13 hx13 hw13 hg13 hB13 hb1 hsg hx1 hw0 hg0
  have hx1 := hx2
  have hs14 := hB14.size
  go_upto_region 14 with (first | (go_at_call 15; (with_reducible refine ((markPointS_any (slx_row hx1 HZ.out HMX.out) (by omega) (by omega) (by omega))).mono ?_); rintro e w15 ⟨rfl, hmk, hgr⟩))
  have hgr2 : w14.grownBy w15 (some gx) := hgr
  have hfar : ∀ i, i ≠ gx → some i ≠ some gx := fun i h e => h (Option.some.inj e)
  have hC15 := (hgr2.block _ xc (hfar _ (by omega))).trans qb.out
  have hw15 := hw2.keepB hlt0 (fun i h1 h2 => hgr2.block i h2 (hfar _ (by omega))) hgr2.size
  have hg15 := hg2.keepN hgr2 hgx
  have hB15 := hB14.grown hgr2 hs14 (fun k e => by have := Option.some.inj e; omega)
  clear hmk hgr hgr2 hfar
  replace qb := qb.out
  refine chk (fun W => Below w.heap.size w W ∧ W.heap[w.heap.size]? = some (.cells #[.int .i64 A, .int .i64 B] 23 (0, 0)) ∧ Sx W a4 L.length c4 L ∧ OwnI W gb 3 (.slice a9 L.length c9) L) (by refine ⟨?_, ?_, ?_, ?_⟩ <;> (exact ck)) ?_
  clear ql qm xb qb
  clear hB14
  rintro w16 ⟨hB16, qc, hw0, hg0⟩
  obtain ⟨qn, qo, xd, xp⟩ := bk2 qc
  replace qc := Lib.hid qc
  clear hC15 hw15 hg15 hB15 hx2 hw2 hg2 hx1
  have hsg : Sx w16 a9 L.length c9 L := by
   obtain ⟨a', c', e, h2, -⟩ := Sx.of_owns hg0
   simp only [Value.slice.injEq, true_and] at e
   obtain ⟨rfl, rfl⟩ := e
   exact h2
  go_upto_region 17 with (first | (have _t := tok17; go_at_call 12; refine (eqIntS_same hsg hw0).mono ?_; rintro e w17 ⟨rfl, hb17⟩; clear tok17 _t; have hz17 := hb17.size; (try simp only [sA, sB, sC, sD] at hz17)))
  have hC17 := keepW hb17 qc.out
  have hw17 := hw0.below hb17
  have hg17 := hg0.below hb17
  have hB17 := below_via hb17 hB16 hB16.size
  clear hb17
  replace qc := qc.out
  refine chk (fun W => Below w.heap.size w W ∧ W.heap[w.heap.size]? = some (.cells #[.int .i64 A, .int .i64 B] 23 (0, 0)) ∧ Sx W a4 L.length c4 L ∧ OwnI W gb 3 (.slice a9 L.length c9) L) (by refine ⟨?_, ?_, ?_, ?_⟩ <;> (exact ck)) ?_
  clear qn qo xd qc
  clear hB16
  rintro w26 ⟨hB26, qd, hw2, hg2⟩
  obtain ⟨qp, qq, xe, xf⟩ := bk2 qd
  replace qd := Lib.hid qd
  clear hC17 hw17 hg17 hB17 hsg hw0 hg0
  have hg0 := hg2
  go_upto_region 18 with (first | (go_at_call 16; (with_reducible refine ((markIntS_any hg0 (by omega) (by omega) (by omega))).mono ?_); rintro e w30 ⟨rfl, hmk, hgr⟩))
  have hfr : ∀ i, i < gb → some i ≠ Value.ownBlock (.slice a9 L.length c9) := fun i hi e => by
   have := (World.ownsRow.lt hg2 _ e.symm).1
   omega
  have hC30 := (hgr.block _ xf (hfr _ (by omega))).trans qd.out
  have hw30 := hw2.keepB hlt0 (fun i h1 h2 => hgr.block i h2 (hfr _ (by omega))) hgr.size
  have hB30 := hB26.grown hgr hB26.size (fun k e => by
   have := (World.ownsRow.lt hg2 _ e).1
   omega)
  have hsm0 : Sx w30 a9 L.length c9 (marks 1 L.length) := by
   obtain ⟨a', c', e, h2, -⟩ := Sx.of_owns hmk
   rw [marks_len] at e h2
   simp only [Value.slice.injEq, true_and] at e
   obtain ⟨rfl, rfl⟩ := e
   exact h2
  clear hmk hgr hfr
  replace qd := qd.out
  refine chk (fun W => Below w.heap.size w W ∧ W.heap[w.heap.size]? = some (.cells #[.int .i64 A, .int .i64 B] 23 (0, 0)) ∧ Sx W a4 L.length c4 L ∧ Sx W a9 L.length c9 (marks 1 L.length)) (by refine ⟨?_, ?_, ?_, ?_⟩ <;> (exact ck)) ?_
  clear qp qq xe qd
  clear hB26
  rintro w19 ⟨hB19, qe, hw0, hsm⟩
  obtain ⟨qr, qt, xg, xr⟩ := bk2 qe
  replace qe := Lib.hid qe
  clear hC30 hw30 hB30 hsm0 hw2 hg2 hg0
  go_upto_region 24 with (first | (have _t := tok31; go_at_call 17; refine (heldIntS_any hsm (by omega) (by omega) (by omega)).mono ?_; rintro e w31 ⟨rfl, hb31⟩; clear tok31 _t; have hz31 := hb31.size; (try simp only [sA, sB, sC, sD] at hz31)))
  have hC31 := keepW hb31 qe.out
  have hw31 := hw0.below hb31
  have hm31 := hsm.below hb31
  have hB31 := below_via hb31 hB19 hB19.size
  clear hb31
  replace qe := qe.out
  refine chk (fun W => Below w.heap.size w W ∧ W.heap[w.heap.size]? = some (.cells #[.int .i64 A, .int .i64 B] 23 (0, 0)) ∧ Sx W a4 L.length c4 L ∧ Sx W a9 L.length c9 (marks 1 L.length)) (by refine ⟨?_, ?_, ?_, ?_⟩ <;> (exact ck)) ?_
  clear qr qt xg qe
  clear hB19
  rintro w20 ⟨hB20, qi, hw2, hs2⟩
  obtain ⟨xm, xn, xt, xu⟩ := bk2 qi
  replace qi := Lib.hid qi
  clear hC31 hw31 hm31 hB31 hw0 hsm
  go_upto_region 25 with (first | (have _t := tok21; go_at_call 7; refine (toCurve_any _ _ _).mono ?_; rintro e w21 ⟨rfl, hb21⟩; clear tok21 _t; have hz21 := hb21.size; (try simp only [sA, sB, sC, sD] at hz21)) | (have _t := tok22; go_at_call 8; (with_reducible refine ((TS _ (below_via hb21 hB20 hB20.size)).out).mono ?_); rintro e w22 ⟨rfl, hr22, hb22⟩; clear tok22 _t; have hz22 := hb22.size; (try simp only [sA, sB, sC, sD] at hz22)) | (have _t := tok23; go_at_call 14; (with_reducible refine ((CI _ _ _ (Px.of_row hr22 HZ.out HMX.out)).out).mono ?_); rintro e w23 ⟨a23, c23, rfl, ho23, hb23⟩; clear tok23 _t; have hz23 := hb23.size; (try simp only [sA, sB, sC, sD] at hz23)))
  have hb2 := below_via hb23 (below_via hb22 hb21 hb21.size) (Nat.le_trans hb21.size hb22.size)
  have hw0 := hw2.below hb2
  have hsm := hs2.below hb2
  have hB23 := below_via hb2 hB20 hB20.size
  have hsh : Sx w23 a23 L.length c23 L := by
   obtain ⟨a', c', e, h2, -⟩ := Sx.of_owns ho23
   simp only [Value.slice.injEq, true_and] at e
   obtain ⟨rfl, rfl⟩ := e
   exact h2
  clear hb21 hb22 hb23 hr22 ho23 hb2
  go_wp2_with (first | (first | (have _t := tok24; go_at_call 12; refine (eqIntS_same hsh hw0).mono ?_; rintro e w24 ⟨rfl, hb24⟩; clear tok24 _t; have hz24 := hb24.size; (try simp only [sA, sB, sC, sD] at hz24))) | (first | (have _t := tok25; go_at_call 17; refine (heldIntS_any (hsm.below hb24) (by omega) (by omega) (by omega)).mono ?_; rintro e w25 ⟨rfl, hb25⟩; clear tok25 _t; have hz25 := hb25.size; (try simp only [sA, sB, sC, sD] at hz25))))
  go_ret
  refine ⟨rfl, ?_⟩
  exact bel
end Go.Proofs.Ytbnglnbcfabmgaa
