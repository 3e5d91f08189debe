/- Lemmas and contracts of functions. No condition. -/
import Derived.Test.YtbnglnbcfabmgaaPf12
import Derived.Test.YtbnglnbcfabmgaaPf38
namespace Go.Proofs.Ytbnglnbcfabmgaa
open Go.RowKit
set_option linter.unusedVariables false
set_option maxHeartbeats 4000000
set_option maxRecDepth 20000
set_option linter.unusedSimpArgs false
attribute [local go_sem] openAt openUpon
theorem rl_val {A B : Int} {zs ns : List Int} {n : Nat} {r1 r2 r3 : Int} {r4 : Bool} (h1 : plB A B zs n = true) (h2 : fitB n n ns = true) (h : cmS A zs ns n = (r1, r2, r3, r4)) :
  rlB A B zs n ns = (r4 && (!allB ns 0 0 n && orB A r1 r2 r3)) := by
 unfold rlB irV
 rw [h1, h2, h]
 cases r4 <;> simp
theorem fit_dg {m n x : Nat} (hm : 1 ≤ m ∧ m ≤ 3) (hn : 1 ≤ n ∧ n ≤ 3) : fitB n n (dgN m n x) = true := by
 unfold fitB
 rw [allB_yes (fun j hj => inB_iff.2 (dgN_bd hm hn j hj))]
 simp
theorem pow_bd3 {m n : Nat} (hm : 1 ≤ m ∧ m ≤ 3) (hn : 1 ≤ n ∧ n ≤ 3) : (2 * m + 1) ^ n ≤ 343 := by
 have hm3 : m = 1 ∨ m = 2 ∨ m = 3 := by omega
 have hn3 : n = 1 ∨ n = 2 ∨ n = 3 := by omega
 rcases hm3 with rfl | rfl | rfl <;> rcases hn3 with rfl | rfl | rfl <;> decide
def FoRel (w w5 : World) (A B : Int) (p : List Int → Bool) (m n NN : Nat) (r : List Int) (iv : Value) (wr : World) : Prop := ∃ x : Nat, iv = .int .i64 x ∧ x ≤ NN ∧ fdX p (dgN m n) (NN - x) x = r ∧ Below w5.heap.size w5 wr
def DgRel (w6 : World) (g m n : Nat) (tgt : List Int) (xv iv : Value) (wr : World) : Prop := ∃ (j : Nat) (y : Int) (qs : List Int), iv = .int .i64 ((j : Int) - 1) ∧ xv = .int .i64 y ∧ (0 ≤ y ∧ y ≤ 343) ∧ j ≤ n ∧ qs.length = n ∧ dgP (2 * (m : Int) + 1) m j y qs = tgt ∧
 wr.heap[g]? = some (.cells (ints qs).toArray 3 (0, 0)) ∧ Below w6.heap.size w6 wr
theorem FindRelation_any (A B : Int) (a0 : Option Addr) (n c0 : Nat) (zs : List Int) (M : Int) (w : World) (hp : Px w a0 n c0 zs) :
  Calls Try.prog 14 #[.agg #[.int .i64 A, .int .i64 B], .slice a0 n c0, .int .i64 M] w fun r w' => ∃ v, r = .returned (.tuple #[v, .bool (decide (0 < (frL A B zs n M).length))]) ∧ OwnI w' w.heap.size 3 v (frL A B zs n M) ∧ Below w.heap.size w w' := by
 have hnm := hp.cap
 have hnm2 := hp.max
 have T1 := fun (W : World) (hW : Below w.heap.size w W) => Lib.hid (pointList_any A B a0 n c0 zs W (hp.below hW))
 have T2 := fun W : World => Lib.hid (inside_any M 1 3 W)
 unfold maxLen at hnm2
 rcases fqB_cases A B zs n M with ⟨h1, e1⟩ | ⟨h1, ⟨h2, e1⟩ | ⟨h2, ⟨h3, e1⟩ | ⟨h3, e1⟩⟩⟩
 ·rw [frL_no e1]
  rw [h1] at T1
  clear h1 e1
  have tok1 := trivial
  have tok2 := trivial
  have tok3 := trivial
  go_enter Try.func14, Try.ntmps14
  go_wp2_with (first | (have _t := tok1; go_at_call 22; (with_reducible refine ((T1 _ bel).out).mono ?_); rintro e w1 ⟨rfl, hb1⟩; clear tok1 _t; have hz1 := hb1.size; (try simp only [sA, sB, sC, sD] at hz1); (try (obtain ⟨kq, qe⟩ := cfAt hb1 (w.heap.size); have qa := kq 0; have qb := kq 1; clear kq; simp [go_sem, *] at qa qb qe)); (try have qo : w.heap.size < w1.heap.size := by omega)) | (go_at_call 31; (with_reducible refine ((T2 _).out).mono ?_); rintro e w' ⟨rfl, rfl⟩))
  go_ret2
  refine ⟨.slice none 0 0, rfl, World.ownsRow_nil _ _ _ _, ?_⟩
  exact bel
 ·rw [frL_no e1]
  rw [h1] at T1
  have hgt : (3 : Int) < (n : Int) := by omega
  clear h1 e1
  have tok1 := trivial
  have tok2 := trivial
  have tok3 := trivial
  go_enter Try.func14, Try.ntmps14
  go_wp2_with (first | (have _t := tok1; go_at_call 22; (with_reducible refine ((T1 _ bel).out).mono ?_); rintro e w1 ⟨rfl, hb1⟩; clear tok1 _t; have hz1 := hb1.size; (try simp only [sA, sB, sC, sD] at hz1); (try (obtain ⟨kq, qe⟩ := cfAt hb1 (w.heap.size); have qa := kq 0; have qb := kq 1; clear kq; simp [go_sem, *] at qa qb qe)); (try have qo : w.heap.size < w1.heap.size := by omega)) | (go_at_call 31; (with_reducible refine ((T2 _).out).mono ?_); rintro e w' ⟨rfl, rfl⟩))
  go_ret2
  refine ⟨.slice none 0 0, rfl, World.ownsRow_nil _ _ _ _, ?_⟩
  exact bel
 ·rw [frL_no e1]
  rw [h1] at T1
  rw [h3] at T2
  have hgt : ¬ (3 : Int) < (n : Int) := by omega
  clear h1 h3 e1
  have tok1 := trivial
  have tok2 := trivial
  have tok3 := trivial
  go_enter Try.func14, Try.ntmps14
  go_wp2_with (first | (have _t := tok1; go_at_call 22; (with_reducible refine ((T1 _ bel).out).mono ?_); rintro e w1 ⟨rfl, hb1⟩; clear tok1 _t; have hz1 := hb1.size; (try simp only [sA, sB, sC, sD] at hz1); (try (obtain ⟨kq, qe⟩ := cfAt hb1 (w.heap.size); have qa := kq 0; have qb := kq 1; clear kq; simp [go_sem, *] at qa qb qe)); (try have qo : w.heap.size < w1.heap.size := by omega)) | (go_at_call 31; (with_reducible refine ((T2 _).out).mono ?_); rintro e w' ⟨rfl, rfl⟩))
  go_ret2
  refine ⟨.slice none 0 0, rfl, World.ownsRow_nil _ _ _ _, ?_⟩
  exact bel
 ·obtain ⟨_, hn, m, rfl, hm⟩ := fqB_out e1
  have hfr : frL A B zs n (m : Int) = fdX (rlB A B zs n) (dgN m n) ((2 * m + 1) ^ n) 0 := by
   rw [← fd_same hm hn]; simp [frL, e1]
  rw [hfr]
  obtain ⟨hcv, hn4, hpt⟩ := plB_out h1
  have hcb := cvB_bd hcv
  have TT := fun W : World => Lib.hid (torsionPoints_any A B W hcv)
  have hNN := pow_bd3 hm hn
  have TP := fun W : World => Lib.hid (show Calls Try.prog 32 #[.int .i64 (2 * (m : Int) + 1), .int .i64 n] W fun e w' => e = .returned (.int .i64 (((2 * m + 1) ^ n : Nat) : Int)) ∧ W = w' by
   have h := intPower_any (2 * (m : Int) + 1) n W (by omega) (by omega) (by omega) (by
    have : (2 * (m : Int) + 1) ^ ((n : Int).toNat) = (((2 * m + 1) ^ n : Nat) : Int) := by simp
    rw [this]; omega)
   rw [show (2 * (m : Int) + 1) ^ ((n : Int).toNat) = (((2 * m + 1) ^ n : Nat) : Int) by simp] at h
   exact h)
  have TC0 := fun (ns : List Int) (hfit : ∀ j, j < n → -12 ≤ ns[j]?.getD 0 ∧ ns[j]?.getD 0 ≤ 12) (b0 : Option Addr) (d0 : Nat) (W : World) (hW : Below w.heap.size w W) (hs : Sx W b0 n d0 ns) => combine_any A B a0 b0 n c0 d0 zs ns W (hp.below hW) hs hcv (by omega) (by omega) hn4 hpt hfit
  have hok0 := fun ns : List Int => cmS_ok (A := A) (B := B) (ns := ns) (n := n) hcb.1 hcb.2.1 hpt n (Nat.le_refl _)
  have HRL := Lib.hid (fun (ns : List Int) (h2 : fitB n n ns = true) (r1 r2 r3 : Int) (r4 : Bool) (h : cmS A zs ns n = (r1, r2, r3, r4)) => rl_val h1 h2 h)
  rw [h1] at T1
  rw [h3] at T2
  have hgt : ¬ (3 : Int) < (n : Int) := by omega
  obtain ⟨r, hr⟩ : ∃ r, fdX (rlB A B zs n) (dgN m n) ((2 * m + 1) ^ n) 0 = r := ⟨_, rfl⟩
  rw [hr]
  obtain ⟨NN, hNNe⟩ : ∃ NN, (2 * m + 1) ^ n = NN := ⟨_, rfl⟩
  rw [hNNe] at TP hr hNN
  have HR := Lib.hid hr
  have HCV := Lib.hid hcv
  obtain ⟨i0, hi, iz0, iz1, iz2⟩ := info_parts infoInt
  clear h1 h3 e1 hfr hNNe hr hpt hcv hp
  have tok1 := trivial
  have tok2 := trivial
  have tok3 := trivial
  have tok4 := trivial
  have tok5 := trivial
  have tok6 := trivial
  have tok7 := trivial
  have tok8 := trivial
  have tok9 := trivial
  have tok10 := trivial
  have tok11 := trivial
  have tok12 := trivial
  go_enter Try.func14, Try.ntmps14
  go_upto_region 1 with fail
  refine chk (fun W => Below w.heap.size w W ∧ W.heap[w.heap.size]? = some (.cells #[.int .i64 A, .int .i64 B] 29 (0, 0))) (by refine ⟨?_, ?_⟩ <;> (exact ck)) ?_
  rintro w40 ⟨hB40, qf⟩
  obtain ⟨xh, xi, xy, zm⟩ := bk2 qf
  replace qf := Lib.hid qf
  go_upto_region 3 with (first | (have _t := tok1; go_at_call 22; (with_reducible refine ((T1 _ bel).out).mono ?_); rintro e w1 ⟨rfl, hb1⟩; clear tok1 _t; have hz1 := hb1.size; (try simp only [sA, sB, sC, sD] at hz1); (try (obtain ⟨kq, qe⟩ := cfAt hb1 (w.heap.size); have qa := kq 0; have qb := kq 1; clear kq; simp [go_sem, *] at qa qb qe)); (try have qo : w.heap.size < w1.heap.size := by omega)) | (go_at_call 31; (with_reducible refine ((T2 _).out).mono ?_); rintro e w' ⟨rfl, rfl⟩))
  have qh := (hb1.block (w.heap.size) (blk_lt' qf.out)).trans qf.out
  clear xh xi xy qf
  obtain ⟨xj, xm, xz, zr⟩ := bk2 qh
  replace qh := Lib.hid qh
  have hB1 : Below w.heap.size w w1 := below_via hb1 (by assumption) (by go_size)
  clear T1 T2
  go_upto_region 4 with (first | (go_at_call 27; (with_reducible refine ((TT _).out).mono ?_); rintro e w3 ⟨v3, rfl, ho3, hb3⟩; obtain ⟨a3, c3, rfl⟩ := ho3.toX.shape))
  have hC3 := keepX hb3 qh.out
  have hx3 := (ho3.toX).low (Nat.zero_le _)
  have hB3 := below_via hb3 hB1 hB1.size
  clear hb3 ho3 TT
  replace qh := qh.out
  refine chk (fun W => Below w.heap.size w W ∧ W.heap[w.heap.size]? = some (.cells #[.int .i64 A, .int .i64 B] 29 (0, 0)) ∧ SlX W 0 3 (.slice a3 (tpL A B).length c3) (tpL A B).length (flat3 (tpL A B))) (by refine ⟨?_, ?_, ?_⟩ <;> (exact ck)) ?_
  clear xj xm xz qh
  clear hB1
  rintro w5 ⟨hB5, qi, hx5⟩
  obtain ⟨xn, xo, za, zt⟩ := bk2 qi
  replace qi := Lib.hid qi
  clear hC3 hx3 hB3
  have hs5 := hB5.size
  go_wp2_with (first | (go_at_call 32; (with_reducible refine ((TP _).out).mono ?_); rintro e w' ⟨rfl, rfl⟩))
  go_loopw [38] (fun iv wr => FoRel w w5 A B (rlB A B zs n) m n NN r iv wr) (fun iv _ => (NN - intOf iv).toNat)
  case atStart => exact ⟨0, rfl, by omega, by rw [Nat.sub_zero]; exact HR.out, Below.refl _ _⟩
  case round =>
   clear HR
   obtain ⟨x, rfl, hx, hf, hbw⟩ := hrel
   have HF := Lib.hid hf
   clear hf
   by_cases hlt : x < NN
   ·have hltc : (x : Int) < (NN : Int) := by omega
    have hC := keepX hbw qi.out
    have hxx := hx5.via hbw
    have hB0 := below_via hbw hB5 hs5
    have hfit := fit_dg (x := x) hm hn
    have hdb := dgN_bd (x := x) hm hn
    have TC := TC0 (dgN m n x) hdb
    have hok := hok0 (dgN m n x)
    have hrl := HRL.out (dgN m n x) hfit
    have hdl := dgN_len m n x
    have hdd : dgP (2 * (m : Int) + 1) m n x (List.replicate n 0) = dgN m n x := rfl
    have hnx : fdX (rlB A B zs n) (dgN m n) (NN - x) x = if rlB A B zs n (dgN m n x) = true then dgN m n x else fdX (rlB A B zs n) (dgN m n) (NN - (x + 1)) (x + 1) := by
     rw [show NN - x = (NN - (x + 1)) + 1 by omega, fdX]
    rw [hnx] at HF
    clear hnx hfit hdb
    obtain ⟨ns, hns⟩ : ∃ ns, dgN m n x = ns := ⟨_, rfl⟩
    rw [hns] at TC hok hrl hdl hdd HF
    have HDD := Lib.hid hdd
    clear hns hdd
    go_upto_region 8 with fail
    replace qi := qi.out
    refine chk (fun W => Below w.heap.size w W ∧ W.heap[w.heap.size]? = some (.cells #[.int .i64 A, .int .i64 B] 29 (0, 0)) ∧ SlX W 0 3 (.slice a3 (tpL A B).length c3) (tpL A B).length (flat3 (tpL A B)) ∧ Below w5.heap.size w5 W) (by refine ⟨?_, ?_, ?_, ?_⟩ <;> (exact ck)) ?_
    clear xn xo za qi
    clear hB5
    rintro w6 ⟨hB6, qj, hx6, hb56⟩
    obtain ⟨xp, xr, zb, zc⟩ := bk2 qj
    replace qj := Lib.hid qj
    clear hC hxx hB0 hbw
    have hs6 := hB6.size
    go_wp2_with (first | (at_make; refine wpList_make_full _ rfl _ _ 25 rfl w6.heap.size 3 i0 (.int .i64 0) 1 Try.underlying25 hi iz0 iz1 .i64 .i64 _ _ n rfl rfl rfl rfl (by rw [iz2]; omega) (by unfold maxLen; omega) (by simp) ?_; intro W0 hm0 hg0; have hr0 := made_row hm0; have hb0 := made_below (B := w6.heap.size) (a := w6) bel hg0 (by simp; try omega); clear hm0 hg0))
    have lC6 := zc
    go_loopw [10, 12] (fun xv iv wr2 => DgRel w6 w6.heap.size m n ns xv iv wr2) (fun _ iv _ => (intOf iv + 1).toNat)
    case atStart => exact ⟨n, x, List.replicate n 0, rfl, rfl, by omega, Nat.le_refl _, by simp, HDD.out, hr0, hb0⟩
    case round =>
     obtain ⟨j, y, qs, rfl, rfl, hy, hj, hq, hd, hrow, hbz⟩ := hrel
     have HQ := Lib.hid hq
     have HD := Lib.hid hd
     clear hq hd
     by_cases hj0 : 0 < j
     ·obtain ⟨k, rfl⟩ : ∃ k, j = k + 1 := ⟨j - 1, by omega⟩
      have hkk : (((k + 1 : Nat) : Int) - 1) = (k : Int) := by omega
      rw [hkk]
      have hk0 : (0 : Int) ≤ (k : Int) := by omega
      have d0 := row_at hrow (j := k) (by have := HQ.out; omega)
      have f0 : wr.frozen? ⟨w6.heap.size, k, none⟩ = false := by simp [World.frozen?, hrow]
      have hW0 : (2 * (m : Int) + 1 == 0) = false := by simp; omega
      have m1 := Int.emod_nonneg y (b := 2 * (m : Int) + 1) (by omega)
      have m2 := Int.emod_lt_of_pos y (b := 2 * (m : Int) + 1) (by omega)
      have m3 := Int.ediv_nonneg (a := y) (b := 2 * (m : Int) + 1) hy.1 (by omega)
      have m4 := Int.ediv_le_self (2 * (m : Int) + 1) hy.1
      go_wp2_with fail
      go_roundw
      case rel => exact ⟨k, y / (2 * (m : Int) + 1), qs.set k (y % (2 * (m : Int) + 1) - m), rfl, rfl, by omega, by omega, by simp [HQ.out], HD.out, row_set hrow _ _, by exact bel⟩
      case measure => simp [intOf] <;> omega
     ·obtain rfl : j = 0 := by omega
      obtain rfl : qs = ns := HD.out
      have hnc : ¬ ((0 : Int) ≤ ((0 : Nat) : Int) - 1) := by omega
      go_upto_region 14 with fail
      have hCq := keepX hbz qj.out
      have hxq := hx6.via hbz
      have hb5q := below_via hbz hb56 hb56.size
      have hBq := below_via hbz hB6 hs6
      have hsq : Sx wr (some ⟨w6.heap.size, 0, none⟩) n n qs := Sx.of_row hrow HQ.out (Nat.le_refl _) (by unfold maxLen; omega) (fun j hj => by simpa using ints_at qs j (by have := HQ.out; omega))
      replace qj := qj.out
      refine chk (fun W => Below w.heap.size w W ∧ W.heap[w.heap.size]? = some (.cells #[.int .i64 A, .int .i64 B] 29 (0, 0)) ∧ SlX W 0 3 (.slice a3 (tpL A B).length c3) (tpL A B).length (flat3 (tpL A B)) ∧ Below w5.heap.size w5 W ∧ Sx W (some ⟨w6.heap.size, 0, none⟩) n n qs ∧ W.heap[w6.heap.size]? = some (.cells (ints qs).toArray 3 (0, 0))) (by refine ⟨?_, ?_, ?_, ?_, ?_, ?_⟩ <;> (exact ck)) ?_
      clear xp xr zb qj
      clear hB6
      rintro w7 ⟨hB7, qk, hx7, hb57, hs7, hg7⟩
      obtain ⟨xt, xu, zd, zu⟩ := bk2 qk
      replace qk := Lib.hid qk
      clear hCq hxq hb5q hBq hsq hrow hbz hx6 hb56
      obtain ⟨r1, r2, r3, r4, hr⟩ := pt4 (cmS A zs qs n)
      simp only [hr] at TC hok
      have hrl2 := hrl r1 r2 r3 r4 hr
      clear hr hrl
      go_upto_region 15 with (first | (have _t := tok9; go_at_call 24; (with_reducible refine ((TC _ _ _ hB7 hs7)).mono ?_); rintro e w9 ⟨rfl, hb9⟩; clear tok9 _t; have hz9 := hb9.size; (try simp only [sA, sB, sC, sD] at hz9)))
      have ql := (hb9.block (w.heap.size) (blk_lt' qk.out)).trans qk.out
      clear xt xu zd qk
      obtain ⟨xw, xx, ze, zv⟩ := bk2 ql
      replace ql := Lib.hid ql
      have hB9 : Below w.heap.size w w9 := below_via hb9 (by assumption) (by go_size)
      have hx9 := hx7.via hb9
      have hb59 := below_via hb9 hb57 hb57.size
      have hs9 := hs7.below hb9
      have hg9 := keepX hb9 hg7
      replace ql := ql.out
      refine chk (fun W => Below w.heap.size w W ∧ W.heap[w.heap.size]? = some (.cells #[.int .i64 A, .int .i64 B] 29 (0, 0)) ∧ W.heap[w9.heap.size]? = some (.cells #[.int .i64 r1, .int .i64 r2, .int .i64 r3] 45 (0, 0)) ∧ Below w9.heap.size w9 W) (by refine ⟨?_, ?_, ?_, ?_⟩ <;> (exact ck)) ?_
      clear xw xx ze ql
      clear hB9
      rintro w10 ⟨hB10, qp, qq, hb90⟩
      obtain ⟨zg, zh, zn, zo⟩ := bk2 qp
      replace qp := Lib.hid qp
      obtain ⟨zi, zj, zk, zp, zq⟩ := bk3 qq
      replace qq := Lib.hid qq
      have hx10 := hx9.via hb90
      have hb50 := below_via hb90 hb59 hb59.size
      have hs10 := hs9.below hb90
      have hg10 := keepX hb90 hg9
      clear hx9 hb59 hs9 hg9 hb90 hx7 hb57 hs7 hg7 TC TC0
      generalize w9.heap.size = gp at *
      have TZ := Lib.hid (isZero_any w10 hs10)
      rw [hrl2] at HF
      obtain ⟨z, hz⟩ : ∃ z, allB qs 0 0 n = z := ⟨_, rfl⟩
      rw [hz] at TZ HF
      clear hz hrl2
      cases r4
      ·have hq := HF.out
       rw [Bool.false_and, if_neg (by simp)] at hq
       have HQQ := Lib.hid hq
       clear hq HF
       go_wp2_with fail
       go_roundw
       case rel => exact ⟨x + 1, by go_num, by omega, HQQ.out, hb50⟩
       case measure => simp [intOf]; omega
      ·have hpr : ptB A B r1 r2 r3 = true := by rcases hok with h | h; exact h.2; simp at h
       have hiff := tp_iff HCV.out hpr
       have hdec : decide ((r1, r2, r3) ∈ tpL A B) = orB A r1 r2 r3 := by
        rw [Bool.eq_iff_iff]; simpa using hiff
       have TK := Lib.hid (containsP_any _ 0 (tpL A B) r1 r2 r3 w10 hx10 (by simp [tpL]))
       rw [hdec] at TK
       clear hiff hdec hok
       rw [Bool.true_and] at HF
       generalize orB A r1 r2 r3 = o at *
       cases z
       ·rw [Bool.not_false, Bool.true_and] at HF
        cases o
        ·have hq := HF.out
         rw [if_neg (by simp)] at hq
         have HQQ := Lib.hid hq
         clear hq HF
         go_wp2_with (first | (go_at_call 25; (with_reducible refine ((TZ).out).mono ?_); rintro e w' ⟨rfl, rfl⟩) | (have _t := tok11; go_at_call 26; (with_reducible refine ((TK).out).mono ?_); rintro e w11 ⟨rfl, hb11⟩; clear tok11 _t; have hz11 := hb11.size; (try simp only [sA, sB, sC, sD] at hz11); (try (obtain ⟨kq, qg⟩ := cfAt hb11 (w.heap.size); have qc := kq 0; have qd := kq 1; clear kq; simp [go_sem, *] at qc qd qg)); (try have qy : w.heap.size < w11.heap.size := by omega); (try clear qr qt xb); (try clear xc); (try clear qu qv xd); (try clear xe); (try clear qw qx xf); (try clear xg); (try clear qm qn qz); (try clear xa)))
         go_roundw
         case rel => exact ⟨x + 1, by go_num, by omega, HQQ.out, below_via hb11 hb50 hb50.size⟩
         case measure => simp [intOf]; omega
        ·have hq := HF.out
         rw [if_pos rfl] at hq
         subst hq
         go_wp2_with (first | (go_at_call 25; (with_reducible refine ((TZ).out).mono ?_); rintro e w' ⟨rfl, rfl⟩) | (have _t := tok11; go_at_call 26; (with_reducible refine ((TK).out).mono ?_); rintro e w11 ⟨rfl, hb11⟩; clear tok11 _t; have hz11 := hb11.size; (try simp only [sA, sB, sC, sD] at hz11); (try (obtain ⟨kq, qg⟩ := cfAt hb11 (w.heap.size); have qc := kq 0; have qd := kq 1; clear kq; simp [go_sem, *] at qc qd qg)); (try have qy : w.heap.size < w11.heap.size := by omega); (try clear qr qt xb); (try clear xc); (try clear qu qv xd); (try clear xe); (try clear qw qx xf); (try clear xg); (try clear qm qn qz); (try clear xa)))
         go_ret2
         have hg11 := keepX hb11 hg10
         have hdn : decide (0 < qs.length) = true := by simp; omega
         refine ⟨.slice (some ⟨w6.heap.size, 0, none⟩) n n, by rw [hdn]; rfl, ⟨by rw [ints_len]; omega, .inr ⟨w6.heap.size, n, _, by rw [hdl], ?_, hg11, by omega, by unfold maxLen; omega, by rw [List.size_toArray, ints_len]; omega, ?_⟩⟩, ?_⟩
         ·omega
         ·rw [hdl, Nat.mul_one]; exact List.take_of_length_le (by rw [ints_len]; omega)
         ·exact below_via hb11 hB10 hB10.size
       ·have hq := HF.out
        rw [Bool.not_true, Bool.false_and, if_neg (by simp)] at hq
        have HQQ := Lib.hid hq
        clear hq HF
        go_wp2_with (first | (go_at_call 25; (with_reducible refine ((TZ).out).mono ?_); rintro e w' ⟨rfl, rfl⟩) | (have _t := tok11; go_at_call 26; (with_reducible refine ((TK).out).mono ?_); rintro e w11 ⟨rfl, hb11⟩; clear tok11 _t; have hz11 := hb11.size; (try simp only [sA, sB, sC, sD] at hz11); (try (obtain ⟨kq, qg⟩ := cfAt hb11 (w.heap.size); have qc := kq 0; have qd := kq 1; clear kq; simp [go_sem, *] at qc qd qg)); (try have qy : w.heap.size < w11.heap.size := by omega); (try clear qr qt xb); (try clear xc); (try clear qu qv xd); (try clear xe); (try clear qw qx xf); (try clear xg); (try clear qm qn qz); (try clear xa)))
        go_roundw
        case rel => exact ⟨x + 1, by go_num, by omega, HQQ.out, hb50⟩
        case measure => simp [intOf]; omega
   ·obtain rfl : x = NN := by omega
    have hq := HF.out
    rw [Nat.sub_self, fdX] at hq
    subst hq
    have hB0 := below_via hbw hB5 hs5
    go_wp2_with fail
    go_ret2
    exact ⟨.slice none 0 0, rfl, World.ownsRow_nil _ _ _ _, hB0⟩
end Go.Proofs.Ytbnglnbcfabmgaa
