/- Lemmas and contracts of functions. No condition. -/
import Derived.Test.YtbnglnbcfabmgaaPk51
namespace Go.Proofs.Ytbnglnbcfabmgaa
open Go.RowKit
set_option linter.unusedVariables false
set_option maxHeartbeats 4000000
set_option maxRecDepth 20000
set_option linter.unusedSimpArgs false
attribute [local go_sem] openAt openUpon
theorem idPoints_any (A B : Int) (a : Option Addr) (n c : Nat) (zs : List Int) (w : World) (h : Px w a n c zs) : Calls Try.prog 18 #[.agg #[.int .i64 A, .int .i64 B], .slice a n c] w fun e w' => e = .returned (.bool (plB A B zs n)) ∧ Below w.heap.size w w' := by
 have T1 := fun (W : World) (hW : Below w.heap.size w W) => Lib.hid (hpList_any A B a n c zs W (h.below hW))
 generalize plB A B zs n = v at *
 have tok1 := trivial
 go_enter Try.func18, Try.ntmps18
 go_wp2_with (first | (have _t := tok1; go_at_call 33; (with_reducible refine ((T1 _ bel).out).mono ?_); rintro e w1 ⟨rfl, hb1⟩; clear tok1 _t; have hz1 := hb1.size; (try simp only [sA, sB, sC, sD] at hz1); (try (obtain ⟨kq, qc⟩ := cfAt hb1 (w.heap.size); have qa := kq 0; have qb := kq 1; clear kq; simp [go_sem, *] at qa qb qc)); (try have qd : w.heap.size < w1.heap.size := by omega)))
 go_ret
 refine ⟨rfl, ?_⟩
 exact bel
theorem idRelation_any (A B : Int) (a0 b0 : Option Addr) (n c0 m d0 : Nat) (zs ns : List Int) (w : World) (hp : Px w a0 n c0 zs) (hs : Sx w b0 m d0 ns) :
  Calls Try.prog 20 #[.agg #[.int .i64 A, .int .i64 B], .slice a0 n c0, .slice b0 m d0] w fun r w' => r = .returned (.tuple #[.bool (irV A B zs n ns m).1, .bool (irV A B zs n ns m).2]) ∧ Below w.heap.size w w' := by
 have hnm := hp.cap
 have hnm2 := hp.max
 have T1 := fun (W : World) (hW : Below w.heap.size w W) => sCombinePoints_any A B a0 b0 n c0 m d0 zs ns W (hp.below hW) (hs.below hW)
 have TZ := fun (W : World) (hW : Below w.heap.size w W) => Lib.hid (l1All_any 0 0 W (hs.below hW))
 unfold maxLen at hnm2
 have hcase : (cmV A B zs n ns m).2.2.2 = false ∧ irV A B zs n ns m = (false, false) ∨ (cmV A B zs n ns m).2.2.2 = true ∧ cvB A B = true ∧ ptB A B (cmV A B zs n ns m).1 (cmV A B zs n ns m).2.1 (cmV A B zs n ns m).2.2.1 = true ∧ irV A B zs n ns m = (!allB ns 0 0 m && orB A (cmV A B zs n ns m).1 (cmV A B zs n ns m).2.1 (cmV A B zs n ns m).2.2.1, true) := by
  unfold irV cmV
  by_cases h : (plB A B zs n && fitB n m ns) = true
  ·rw [if_pos h, if_pos h]
   rw [Bool.and_eq_true] at h
   obtain ⟨hcv, hn4, hpt⟩ := plB_out h.1
   have hcb := cvB_bd hcv
   have hok := cmS_ok (A := A) (B := B) (ns := ns) (n := n) hcb.1 hcb.2.1 hpt n (Nat.le_refl _)
   by_cases h4 : (cmS A zs ns n).2.2.2 = true
   ·rw [if_pos h4]
    refine Or.inr ⟨h4, hcv, ?_, rfl⟩
    rcases hok with q | q
    ·exact q.2
    ·rw [q] at h4; simp at h4
   ·rw [if_neg h4]
    exact Or.inl ⟨by simpa using h4, rfl⟩
  ·rw [if_neg h, if_neg h]
   exact Or.inl ⟨rfl, rfl⟩
 obtain ⟨r1, r2, r3, r4, hr⟩ := pt4 (cmV A B zs n ns m)
 simp only [hr] at T1 hcase
 obtain ⟨⟨v1, v2⟩, hvv⟩ : ∃ v, irV A B zs n ns m = v := ⟨_, rfl⟩
 rw [hvv] at hcase ⊢
 have HC0 := Lib.hid hcase
 clear hcase hvv hr
 have tok1 := trivial
 have tok2 := trivial
 have tok3 := trivial
 have tok4 := trivial
 go_enter Try.func20, Try.ntmps20
 go_upto_region 1 with fail
 refine chk (fun W => Below w.heap.size w W ∧ W.heap[w.heap.size]? = some (.cells #[.int .i64 A, .int .i64 B] 29 (0, 0))) (by refine ⟨?_, ?_⟩ <;> (exact ck)) ?_
 rintro w10 ⟨hB10, qa⟩
 obtain ⟨qg, qh, qp, qz⟩ := bk2 qa
 replace qa := Lib.hid qa
 go_upto_region 2 with (first | (have _t := tok1; go_at_call 35; (with_reducible refine ((T1 _ bel)).mono ?_); rintro e w1 ⟨rfl, hb1⟩; clear tok1 _t; have hz1 := hb1.size; (try simp only [sA, sB, sC, sD] at hz1)))
 have qb := (hb1.block (w.heap.size) (blk_lt' qa.out)).trans qa.out
 clear qg qh qp qa
 obtain ⟨qi, qj, qq, xa⟩ := bk2 qb
 replace qb := Lib.hid qb
 have hB1 : Below w.heap.size w w1 := below_via hb1 (by assumption) (by go_size)
 clear T1
 replace qb := qb.out
 refine chk (fun W => Below w.heap.size w W ∧ W.heap[w.heap.size]? = some (.cells #[.int .i64 A, .int .i64 B] 29 (0, 0)) ∧ W.heap[w1.heap.size]? = some (.cells #[.int .i64 r1, .int .i64 r2, .int .i64 r3] 45 (0, 0))) (by refine ⟨?_, ?_, ?_⟩ <;> (exact ck)) ?_
 clear qi qj qq qb
 clear hB1
 rintro w2 ⟨hB2, qc, qd⟩
 obtain ⟨qk, ql, qr, xb⟩ := bk2 qc
 replace qc := Lib.hid qc
 obtain ⟨qm, qn, qo, qt, xc⟩ := bk3 qd
 replace qd := Lib.hid qd
 generalize w1.heap.size = gp at *
 try clear hb1
 rcases HC0.out with ⟨rfl, hv⟩ | ⟨rfl, hcv, hpt, hv⟩
 ·obtain ⟨rfl, rfl⟩ : v1 = false ∧ v2 = false := by simpa using hv
  clear hv HC0
  go_wp2_with fail
  go_ret2
  exact ⟨rfl, hB2⟩
 ·obtain ⟨rfl, rfl⟩ : v1 = (!allB ns 0 0 m && orB A r1 r2 r3) ∧ v2 = true := by simpa using hv
  have hcb := cvB_bd hcv
  have T2 := fun W : World => Lib.hid (ptOrder_any A B r1 r2 r3 W hcb.1 hcb.2.1 hpt)
  obtain ⟨⟨o1, o2⟩, hov⟩ : ∃ r, orV A r1 r2 r3 = r := ⟨_, rfl⟩
  have hob : orB A r1 r2 r3 = o2 := by unfold orB; rw [hov]
  rw [hov] at T2
  simp only at T2
  obtain ⟨z, hz⟩ : ∃ z, allB ns 0 0 m = z := ⟨_, rfl⟩
  rw [hz] at TZ
  have HO := Lib.hid hob
  have HZ := Lib.hid hz
  clear hv HC0 hcv hpt hcb hov hob hz
  go_upto_region 4 with fail
  go_upto_region 5 with (first | (have _t := tok3; go_at_call 36; (with_reducible refine ((T2 _).out).mono ?_); rintro e w3 ⟨rfl, hb3⟩; clear tok3 _t; have hz3 := hb3.size; (try simp only [sA, sB, sC, sD] at hz3)))
  have qe := (hb3.block (w.heap.size) (blk_lt' qc.out)).trans qc.out
  clear qk ql qr qc
  obtain ⟨qu, qv, xd, xe⟩ := bk2 qe
  replace qe := Lib.hid qe
  have qf := (hb3.block (gp) (blk_lt' qd.out)).trans qd.out
  clear qm qn qo qt qd
  obtain ⟨qw, qx, qy, xf, xg⟩ := bk3 qf
  replace qf := Lib.hid qf
  have hB3 : Below w.heap.size w w3 := below_via hb3 (by assumption) (by go_size)
  cases o2
  ·go_wp2_with fail
   go_ret2
   exact ⟨by simp [HO.out, HZ.out], hB3⟩
  ·go_wp2_with (first | (go_at_call 34; (with_reducible refine ((TZ _ bel).out).mono ?_); rintro e w' ⟨rfl, rfl⟩))
   go_ret2
   exact ⟨by simp [HO.out, HZ.out], hB3⟩
theorem sIsRelation_any (A B : Int) (a0 b0 : Option Addr) (n c0 m d0 : Nat) (zs ns : List Int) (w : World) (hp : Px w a0 n c0 zs) (hs : Sx w b0 m d0 ns) :
  Calls Try.prog 6 #[.agg #[.int .i64 A, .int .i64 B], .slice a0 n c0, .slice b0 m d0] w fun r w' => r = .returned (.tuple #[.bool (irV A B zs n ns m).1, .bool (irV A B zs n ns m).2]) ∧ Below w.heap.size w w' := by
 have hnm := hp.cap
 have hnm2 := hp.max
 have T1 := fun (W : World) (hW : Below w.heap.size w W) => Lib.hid (idPoints_any A B a0 n c0 zs W (hp.below hW))
 have T2 := fun (W : World) (hW : Below w.heap.size w W) => Lib.hid (hpNumbers_any (a := a0) (n := n) (c := c0) W (hs.below hW) (by omega))
 have T3 := fun (W : World) (hW : Below w.heap.size w W) => Lib.hid (idRelation_any A B a0 b0 n c0 m d0 zs ns W (hp.below hW) (hs.below hW))
 unfold maxLen at hnm2
 rcases irV_cases A B zs n ns m with ⟨h1, e1⟩ | ⟨h1, ⟨h2, e1⟩ | ⟨h2, e1⟩⟩
 ·rw [e1]
  rw [h1] at T1
  clear h1 e1 T3
  have T3 := T1
  have tok1 := trivial
  have tok2 := trivial
  go_enter Try.func6, Try.ntmps6
  go_wp2_with (first | (have _t := tok1; go_at_call 18; (with_reducible refine ((T1 _ bel).out).mono ?_); rintro e w1 ⟨rfl, hb1⟩; clear tok1 _t; have hz1 := hb1.size; (try simp only [sA, sB, sC, sD] at hz1); (try (obtain ⟨kq, qc⟩ := cfAt hb1 (w.heap.size); have qa := kq 0; have qb := kq 1; clear kq; simp [go_sem, *] at qa qb qc)); (try have qf : w.heap.size < w1.heap.size := by omega)) | (go_at_call 19; (with_reducible refine ((T2 _ bel).out).mono ?_); rintro e w' ⟨rfl, rfl⟩) | (have _t := tok2; go_at_call 20; (with_reducible refine ((T3 _ bel).out).mono ?_); rintro e w2 ⟨rfl, hb2⟩; clear tok2 _t; have hz2 := hb2.size; (try simp only [sA, sB, sC, sD] at hz2); (try (obtain ⟨kq, qg⟩ := cfAt hb2 (w.heap.size); have qd := kq 0; have qe := kq 1; clear kq; simp [go_sem, *] at qd qe qg)); (try have qh : w.heap.size < w2.heap.size := by omega); (try clear qa qb qc); (try clear qf)))
  go_ret2
  refine ⟨rfl, ?_⟩
  exact bel
 ·rw [e1]
  rw [h1] at T1
  rw [h2] at T2
  clear h1 h2 e1 T3
  have T3 := T1
  have tok1 := trivial
  have tok2 := trivial
  go_enter Try.func6, Try.ntmps6
  go_wp2_with (first | (have _t := tok1; go_at_call 18; (with_reducible refine ((T1 _ bel).out).mono ?_); rintro e w1 ⟨rfl, hb1⟩; clear tok1 _t; have hz1 := hb1.size; (try simp only [sA, sB, sC, sD] at hz1); (try (obtain ⟨kq, qc⟩ := cfAt hb1 (w.heap.size); have qa := kq 0; have qb := kq 1; clear kq; simp [go_sem, *] at qa qb qc)); (try have qf : w.heap.size < w1.heap.size := by omega)) | (go_at_call 19; (with_reducible refine ((T2 _ bel).out).mono ?_); rintro e w' ⟨rfl, rfl⟩) | (have _t := tok2; go_at_call 20; (with_reducible refine ((T3 _ bel).out).mono ?_); rintro e w2 ⟨rfl, hb2⟩; clear tok2 _t; have hz2 := hb2.size; (try simp only [sA, sB, sC, sD] at hz2); (try (obtain ⟨kq, qg⟩ := cfAt hb2 (w.heap.size); have qd := kq 0; have qe := kq 1; clear kq; simp [go_sem, *] at qd qe qg)); (try have qh : w.heap.size < w2.heap.size := by omega); (try clear qa qb qc); (try clear qf)))
  go_ret2
  refine ⟨rfl, ?_⟩
  exact bel
 ·clear e1
  rw [h1] at T1
  rw [h2] at T2
  clear h1 h2
  generalize irV A B zs n ns m = v at *
  obtain ⟨v1, v2⟩ := v
  have tok1 := trivial
  have tok2 := trivial
  go_enter Try.func6, Try.ntmps6
  go_wp2_with (first | (have _t := tok1; go_at_call 18; (with_reducible refine ((T1 _ bel).out).mono ?_); rintro e w1 ⟨rfl, hb1⟩; clear tok1 _t; have hz1 := hb1.size; (try simp only [sA, sB, sC, sD] at hz1); (try (obtain ⟨kq, qc⟩ := cfAt hb1 (w.heap.size); have qa := kq 0; have qb := kq 1; clear kq; simp [go_sem, *] at qa qb qc)); (try have qf : w.heap.size < w1.heap.size := by omega)) | (go_at_call 19; (with_reducible refine ((T2 _ bel).out).mono ?_); rintro e w' ⟨rfl, rfl⟩) | (have _t := tok2; go_at_call 20; (with_reducible refine ((T3 _ bel).out).mono ?_); rintro e w2 ⟨rfl, hb2⟩; clear tok2 _t; have hz2 := hb2.size; (try simp only [sA, sB, sC, sD] at hz2); (try (obtain ⟨kq, qg⟩ := cfAt hb2 (w.heap.size); have qd := kq 0; have qe := kq 1; clear kq; simp [go_sem, *] at qd qe qg)); (try have qh : w.heap.size < w2.heap.size := by omega); (try clear qa qb qc); (try clear qf)))
  go_ret2
  refine ⟨rfl, ?_⟩
  exact bel
theorem FnExactIsRelation_any (A B : Int) (a : Option Addr) (n c : Nat) (zs : List Int) (a2 : Option Addr) (m c2 : Nat) (ns : List Int) (w : World) (h : Px w a n c zs) (h2 : Sx w a2 m c2 ns) :
  Calls Try.prog 3 #[.agg #[.int .i64 A, .int .i64 B], .slice a n c, .slice a2 m c2] w fun e w' => e = .returned (.bool true) ∧ Below w.heap.size w w' := by
 have hlm : n ≤ maxLen := Nat.le_trans h.cap h.max
 have hlm2 : m ≤ maxLen := Nat.le_trans h2.cap h2.max
 unfold maxLen at hlm2
 by_cases hm0 : (1048576 : Int) < m
 ·clear hlm
  have tok1 := trivial
  have tok2 := trivial
  have tok3 := trivial
  have tok4 := trivial
  have tok5 := trivial
  have tok6 := trivial
  have tok7 := trivial
  have tok8 := trivial
  have tok9 := trivial
  have tok10 := trivial
  have tok11 := trivial
  have tok12 := trivial
  have tok13 := trivial
  have tok14 := trivial
  go_enter Try.func3, Try.ntmps3
  go_wp2_with fail
  go_ret
  refine ⟨rfl, ?_⟩
  exact bel
 have hm : m ≤ 1048576 := by omega
 have T1 := fun W : World => Lib.hid (szPointS_any a n c 1048576 W hlm (by omega) (by omega))
 by_cases hl : (1048576 : Int) - n < 0
 ·rw [if_pos hl] at T1
  clear hl hlm
  have tok1 := trivial
  have tok2 := trivial
  have tok3 := trivial
  have tok4 := trivial
  have tok5 := trivial
  have tok6 := trivial
  have tok7 := trivial
  have tok8 := trivial
  have tok9 := trivial
  have tok10 := trivial
  have tok11 := trivial
  have tok12 := trivial
  have tok13 := trivial
  have tok14 := trivial
  go_enter Try.func3, Try.ntmps3
  go_wp2_with (first | (go_at_call 5; (with_reducible refine ((T1 _).out).mono ?_); rintro e w' ⟨rfl, rfl⟩) | (have _t := tok2; go_at_call 7; refine (toCurve_any _ _ _).mono ?_; rintro e w2 ⟨rfl, hb2⟩; clear tok2 _t; have hz2 := hb2.size; (try simp only [sA, sB, sC, sD] at hz2); (try (obtain ⟨kq, qt⟩ := cfAt hb2 (w.heap.size); have qa := kq 0; have qb := kq 1; clear kq; simp [go_sem, *] at qa qb qt)); (try have xe : w.heap.size < w2.heap.size := by omega); (try clear xc xd xx); (try clear xy)) | (have _t := tok3; go_at_call 8; refine (toPointS_any a n c zs _ (h.below bel) hn).mono ?_; rintro e w3 ⟨rfl, hp3, hg3, hb3⟩; clear tok3 _t; have hz3 := hb3.size; (try simp only [sA, sB, sC, sD] at hz3); (try (obtain ⟨kq, qu⟩ := cfAt hb3 (w.heap.size); have qc := kq 0; have qd := kq 1; clear kq; simp [go_sem, *] at qc qd qu)); (try have xf : w.heap.size < w3.heap.size := by omega); (try clear xc xd xx); (try clear xy); (try clear qa qb qt); (try clear xe)) | (have _t := tok4; go_at_call 9; refine (toIntS_any a2 m c2 ns _ (h2.below bel) hm).mono ?_; rintro e w4 ⟨rfl, hs4, hg4, hb4⟩; clear tok4 _t; have hz4 := hb4.size; (try simp only [sA, sB, sC, sD] at hz4); (try (obtain ⟨kq, qv⟩ := cfAt hb4 (w.heap.size); have qe := kq 0; have qf := kq 1; clear kq; simp [go_sem, *] at qe qf qv)); (try have xg : w.heap.size < w4.heap.size := by omega); (try clear xc xd xx); (try clear xy); (try clear qa qb qt); (try clear xe); (try clear qc qd qu); (try clear xf)) | (have _t := tok5; go_at_call 6; (with_reducible refine ((T3 _ _ _ _ _ (hp3.below hb4) hs4)).mono ?_); rintro e w5 ⟨rfl, hb5⟩; clear tok5 _t; have hz5 := hb5.size; (try simp only [sA, sB, sC, sD] at hz5); (try (obtain ⟨kq, qw⟩ := cfAt hb5 (w.heap.size); have qg := kq 0; have qh := kq 1; clear kq; simp [go_sem, *] at qg qh qw)); (try have xh : w.heap.size < w5.heap.size := by omega); (try clear xc xd xx); (try clear xy); (try clear qa qb qt); (try clear xe); (try clear qc qd qu); (try clear xf); (try clear qe qf qv); (try clear xg)) | (have _t := tok6; go_at_call 8; refine (toPointS_any a n c zs _ (h.below bel) hn).mono ?_; rintro e w6 ⟨rfl, hp6, hg6, hb6⟩; clear tok6 _t; have hz6 := hb6.size; (try simp only [sA, sB, sC, sD] at hz6); (try (obtain ⟨kq, xi⟩ := cfAt hb6 (w.heap.size); have qk := kq 0; have ql := kq 1; clear kq; simp [go_sem, *] at qk ql xi)); (try have xz : w.heap.size < w6.heap.size := by omega); (try clear qa qb qt); (try clear xe); (try clear qc qd qu); (try clear xf); (try clear qe qf qv); (try clear xg); (try clear qg qh qw); (try clear xh)) | (have _t := tok7; go_at_call 9; refine (toIntS_any a2 m c2 ns _ (h2.below bel) hm).mono ?_; rintro e w7 ⟨rfl, hs7, hg7, hb7⟩; clear tok7 _t; have hz7 := hb7.size; (try simp only [sA, sB, sC, sD] at hz7); (try (obtain ⟨kq, xj⟩ := cfAt hb7 (w.heap.size); have qm := kq 0; have qn := kq 1; clear kq; simp [go_sem, *] at qm qn xj)); (try have za : w.heap.size < w7.heap.size := by omega); (try clear qc qd qu); (try clear xf); (try clear qe qf qv); (try clear xg); (try clear qg qh qw); (try clear xh); (try clear qk ql xi); (try clear xz)) | (have _t := tok8; go_at_call 7; refine (toCurve_any _ _ _).mono ?_; rintro e w8 ⟨rfl, hb8⟩; clear tok8 _t; have hz8 := hb8.size; (try simp only [sA, sB, sC, sD] at hz8); (try (obtain ⟨kq, xm⟩ := cfAt hb8 (w.heap.size); have qo := kq 0; have qp := kq 1; clear kq; simp [go_sem, *] at qo qp xm)); (try have zb : w.heap.size < w8.heap.size := by omega); (try clear qe qf qv); (try clear xg); (try clear qg qh qw); (try clear xh); (try clear qk ql xi); (try clear xz); (try clear qm qn xj); (try clear za)) | (have _t := tok9; go_at_call 10; (with_reducible refine ((T5 _ _ _ _ _ ((hp6.below hb7).below hb8) (hs7.below hb8))).mono ?_); rintro e w9 ⟨rfl, hb9⟩; clear tok9 _t; have hz9 := hb9.size; (try simp only [sA, sB, sC, sD] at hz9); (try (obtain ⟨kq, xn⟩ := cfAt hb9 (w.heap.size); have qq := kq 0; have qr := kq 1; clear kq; simp [go_sem, *] at qq qr xn)); (try have zc : w.heap.size < w9.heap.size := by omega); (try clear qg qh qw); (try clear xh); (try clear qk ql xi); (try clear xz); (try clear qm qn xj); (try clear za); (try clear qo qp xm); (try clear zb)) | (have _t := tok11; go_at_call 8; refine (toPointS_any a n c zs _ (h.below bel) hn).mono ?_; rintro e w11 ⟨rfl, hp11, hg11, hb11⟩; clear tok11 _t; have hz11 := hb11.size; (try simp only [sA, sB, sC, sD] at hz11); (try (obtain ⟨kq, xb⟩ := cfAt hb11 (w.heap.size); have qi := kq 0; have qj := kq 1; clear kq; simp [go_sem, *] at qi qj xb)); (try have xo : w.heap.size < w11.heap.size := by omega); (try clear qm qn xj); (try clear za); (try clear qo qp xm); (try clear zb); (try clear qq qr xn); (try clear zc); (try clear qx qy xp); (try clear xr)) | (have _t := tok12; go_at_call 11; refine (eqPointS_same _ _ _ _ _ _ _ _ (hp6.below bel) hp11).mono ?_; rintro e w12 ⟨rfl, hb12⟩; clear tok12 _t; have hz12 := hb12.size; (try simp only [sA, sB, sC, sD] at hz12); (try (obtain ⟨kq, xt⟩ := cfAt hb12 (w.heap.size); have qz := kq 0; have xa := kq 1; clear kq; simp [go_sem, *] at qz xa xt)); (try have zd : w.heap.size < w12.heap.size := by omega); (try clear qo qp xm); (try clear zb); (try clear qq qr xn); (try clear zc); (try clear qx qy xp); (try clear xr); (try clear qi qj xb); (try clear xo)) | (have _t := tok13; go_at_call 9; refine (toIntS_any a2 m c2 ns _ (h2.below bel) hm).mono ?_; rintro e w13 ⟨rfl, hs13, hg13, hb13⟩; clear tok13 _t; have hz13 := hb13.size; (try simp only [sA, sB, sC, sD] at hz13); (try (obtain ⟨kq, ze⟩ := cfAt hb13 (w.heap.size); have xu := kq 0; have xw := kq 1; clear kq; simp [go_sem, *] at xu xw ze)); (try have zi : w.heap.size < w13.heap.size := by omega); (try clear qq qr xn); (try clear zc); (try clear qx qy xp); (try clear xr); (try clear qi qj xb); (try clear xo); (try clear qz xa xt); (try clear zd)) | (have _t := tok14; go_at_call 12; refine (eqIntS_same (hs7.below bel) hs13).mono ?_; rintro e w14 ⟨rfl, hb14⟩; clear tok14 _t; have hz14 := hb14.size; (try simp only [sA, sB, sC, sD] at hz14); (try (obtain ⟨kq, zj⟩ := cfAt hb14 (w.heap.size); have zg := kq 0; have zh := kq 1; clear kq; simp [go_sem, *] at zg zh zj)); (try have zk : w.heap.size < w14.heap.size := by omega); (try clear qx qy xp); (try clear xr); (try clear qi qj xb); (try clear xo); (try clear qz xa xt); (try clear zd); (try clear xu xw ze); (try clear zi)))
  go_ret
  refine ⟨rfl, ?_⟩
  exact bel
 ·rw [if_neg hl] at T1
  have hn : n ≤ 1048576 := by omega
  have T3 := fun (W : World) (a : Option Addr) (c : Nat) (b : Option Addr) (d : Nat) (h : Px W a n c zs) (h2 : Sx W b m d ns) => sIsRelation_any A B a b n c m d zs ns W h h2
  have T5 := fun (W : World) (a : Option Addr) (c : Nat) (b : Option Addr) (d : Nat) (h : Px W a n c zs) (h2 : Sx W b m d ns) => IsRelation_any A B a b n c m d zs ns W h h2
  generalize hv : (1048576 : Int) - n = v at *
  obtain ⟨⟨r1, r2⟩, hr⟩ : ∃ r, irV A B zs n ns m = r := ⟨_, rfl⟩
  simp only [hr] at T3 T5
  clear hlm hv hr
  have tok1 := trivial
  have tok2 := trivial
  have tok3 := trivial
  have tok4 := trivial
  have tok5 := trivial
  have tok6 := trivial
  have tok7 := trivial
  have tok8 := trivial
  have tok9 := trivial
  have tok10 := trivial
  have tok11 := trivial
  have tok12 := trivial
  have tok13 := trivial
  have tok14 := trivial
  go_enter Try.func3, Try.ntmps3
  go_wp2_with (first | (go_at_call 5; (with_reducible refine ((T1 _).out).mono ?_); rintro e w' ⟨rfl, rfl⟩) | (have _t := tok2; go_at_call 7; refine (toCurve_any _ _ _).mono ?_; rintro e w2 ⟨rfl, hb2⟩; clear tok2 _t; have hz2 := hb2.size; (try simp only [sA, sB, sC, sD] at hz2); (try (obtain ⟨kq, qt⟩ := cfAt hb2 (w.heap.size); have qa := kq 0; have qb := kq 1; clear kq; simp [go_sem, *] at qa qb qt)); (try have xe : w.heap.size < w2.heap.size := by omega); (try clear xc xd xx); (try clear xy)) | (have _t := tok3; go_at_call 8; refine (toPointS_any a n c zs _ (h.below bel) hn).mono ?_; rintro e w3 ⟨rfl, hp3, hg3, hb3⟩; clear tok3 _t; have hz3 := hb3.size; (try simp only [sA, sB, sC, sD] at hz3); (try (obtain ⟨kq, qu⟩ := cfAt hb3 (w.heap.size); have qc := kq 0; have qd := kq 1; clear kq; simp [go_sem, *] at qc qd qu)); (try have xf : w.heap.size < w3.heap.size := by omega); (try clear xc xd xx); (try clear xy); (try clear qa qb qt); (try clear xe)) | (have _t := tok4; go_at_call 9; refine (toIntS_any a2 m c2 ns _ (h2.below bel) hm).mono ?_; rintro e w4 ⟨rfl, hs4, hg4, hb4⟩; clear tok4 _t; have hz4 := hb4.size; (try simp only [sA, sB, sC, sD] at hz4); (try (obtain ⟨kq, qv⟩ := cfAt hb4 (w.heap.size); have qe := kq 0; have qf := kq 1; clear kq; simp [go_sem, *] at qe qf qv)); (try have xg : w.heap.size < w4.heap.size := by omega); (try clear xc xd xx); (try clear xy); (try clear qa qb qt); (try clear xe); (try clear qc qd qu); (try clear xf)) | (have _t := tok5; go_at_call 6; (with_reducible refine ((T3 _ _ _ _ _ (hp3.below hb4) hs4)).mono ?_); rintro e w5 ⟨rfl, hb5⟩; clear tok5 _t; have hz5 := hb5.size; (try simp only [sA, sB, sC, sD] at hz5); (try (obtain ⟨kq, qw⟩ := cfAt hb5 (w.heap.size); have qg := kq 0; have qh := kq 1; clear kq; simp [go_sem, *] at qg qh qw)); (try have xh : w.heap.size < w5.heap.size := by omega); (try clear xc xd xx); (try clear xy); (try clear qa qb qt); (try clear xe); (try clear qc qd qu); (try clear xf); (try clear qe qf qv); (try clear xg)) | (have _t := tok6; go_at_call 8; refine (toPointS_any a n c zs _ (h.below bel) hn).mono ?_; rintro e w6 ⟨rfl, hp6, hg6, hb6⟩; clear tok6 _t; have hz6 := hb6.size; (try simp only [sA, sB, sC, sD] at hz6); (try (obtain ⟨kq, xi⟩ := cfAt hb6 (w.heap.size); have qk := kq 0; have ql := kq 1; clear kq; simp [go_sem, *] at qk ql xi)); (try have xz : w.heap.size < w6.heap.size := by omega); (try clear qa qb qt); (try clear xe); (try clear qc qd qu); (try clear xf); (try clear qe qf qv); (try clear xg); (try clear qg qh qw); (try clear xh)) | (have _t := tok7; go_at_call 9; refine (toIntS_any a2 m c2 ns _ (h2.below bel) hm).mono ?_; rintro e w7 ⟨rfl, hs7, hg7, hb7⟩; clear tok7 _t; have hz7 := hb7.size; (try simp only [sA, sB, sC, sD] at hz7); (try (obtain ⟨kq, xj⟩ := cfAt hb7 (w.heap.size); have qm := kq 0; have qn := kq 1; clear kq; simp [go_sem, *] at qm qn xj)); (try have za : w.heap.size < w7.heap.size := by omega); (try clear qc qd qu); (try clear xf); (try clear qe qf qv); (try clear xg); (try clear qg qh qw); (try clear xh); (try clear qk ql xi); (try clear xz)) | (have _t := tok8; go_at_call 7; refine (toCurve_any _ _ _).mono ?_; rintro e w8 ⟨rfl, hb8⟩; clear tok8 _t; have hz8 := hb8.size; (try simp only [sA, sB, sC, sD] at hz8); (try (obtain ⟨kq, xm⟩ := cfAt hb8 (w.heap.size); have qo := kq 0; have qp := kq 1; clear kq; simp [go_sem, *] at qo qp xm)); (try have zb : w.heap.size < w8.heap.size := by omega); (try clear qe qf qv); (try clear xg); (try clear qg qh qw); (try clear xh); (try clear qk ql xi); (try clear xz); (try clear qm qn xj); (try clear za)) | (have _t := tok9; go_at_call 10; (with_reducible refine ((T5 _ _ _ _ _ ((hp6.below hb7).below hb8) (hs7.below hb8))).mono ?_); rintro e w9 ⟨rfl, hb9⟩; clear tok9 _t; have hz9 := hb9.size; (try simp only [sA, sB, sC, sD] at hz9); (try (obtain ⟨kq, xn⟩ := cfAt hb9 (w.heap.size); have qq := kq 0; have qr := kq 1; clear kq; simp [go_sem, *] at qq qr xn)); (try have zc : w.heap.size < w9.heap.size := by omega); (try clear qg qh qw); (try clear xh); (try clear qk ql xi); (try clear xz); (try clear qm qn xj); (try clear za); (try clear qo qp xm); (try clear zb)) | (have _t := tok11; go_at_call 8; refine (toPointS_any a n c zs _ (h.below bel) hn).mono ?_; rintro e w11 ⟨rfl, hp11, hg11, hb11⟩; clear tok11 _t; have hz11 := hb11.size; (try simp only [sA, sB, sC, sD] at hz11); (try (obtain ⟨kq, xb⟩ := cfAt hb11 (w.heap.size); have qi := kq 0; have qj := kq 1; clear kq; simp [go_sem, *] at qi qj xb)); (try have xo : w.heap.size < w11.heap.size := by omega); (try clear qm qn xj); (try clear za); (try clear qo qp xm); (try clear zb); (try clear qq qr xn); (try clear zc); (try clear qx qy xp); (try clear xr)) | (have _t := tok12; go_at_call 11; refine (eqPointS_same _ _ _ _ _ _ _ _ (hp6.below bel) hp11).mono ?_; rintro e w12 ⟨rfl, hb12⟩; clear tok12 _t; have hz12 := hb12.size; (try simp only [sA, sB, sC, sD] at hz12); (try (obtain ⟨kq, xt⟩ := cfAt hb12 (w.heap.size); have qz := kq 0; have xa := kq 1; clear kq; simp [go_sem, *] at qz xa xt)); (try have zd : w.heap.size < w12.heap.size := by omega); (try clear qo qp xm); (try clear zb); (try clear qq qr xn); (try clear zc); (try clear qx qy xp); (try clear xr); (try clear qi qj xb); (try clear xo)) | (have _t := tok13; go_at_call 9; refine (toIntS_any a2 m c2 ns _ (h2.below bel) hm).mono ?_; rintro e w13 ⟨rfl, hs13, hg13, hb13⟩; clear tok13 _t; have hz13 := hb13.size; (try simp only [sA, sB, sC, sD] at hz13); (try (obtain ⟨kq, ze⟩ := cfAt hb13 (w.heap.size); have xu := kq 0; have xw := kq 1; clear kq; simp [go_sem, *] at xu xw ze)); (try have zi : w.heap.size < w13.heap.size := by omega); (try clear qq qr xn); (try clear zc); (try clear qx qy xp); (try clear xr); (try clear qi qj xb); (try clear xo); (try clear qz xa xt); (try clear zd)) | (have _t := tok14; go_at_call 12; refine (eqIntS_same (hs7.below bel) hs13).mono ?_; rintro e w14 ⟨rfl, hb14⟩; clear tok14 _t; have hz14 := hb14.size; (try simp only [sA, sB, sC, sD] at hz14); (try (obtain ⟨kq, zj⟩ := cfAt hb14 (w.heap.size); have zg := kq 0; have zh := kq 1; clear kq; simp [go_sem, *] at zg zh zj)); (try have zk : w.heap.size < w14.heap.size := by omega); (try clear qx qy xp); (try clear xr); (try clear qi qj xb); (try clear xo); (try clear qz xa xt); (try clear zd); (try clear xu xw ze); (try clear zi)))

  go_ret
  refine ⟨rfl, ?_⟩
  exact bel
end Go.Proofs.Ytbnglnbcfabmgaa
