/- Lemmas and contracts of functions. No condition. -/
import Derived.Test.YtnemnkbcbokafaaGreatPk15
import Derived.Test.YtnemnkbcbokafaaGreatPk28
namespace Go.Proofs.YtnemnkbcbokafaaGreat
open Go.RowKit
set_option linter.unusedVariables false
set_option maxHeartbeats 16000000
set_option maxRecDepth 20000
set_option linter.unusedSimpArgs false
attribute [local go_sem] openAt openUpon
theorem bd9 {n d : Int} (h : d ≤ 8000 ∧ (-(200 * d) ≤ n ∧ n ≤ 200 * d)) : -1600000 ≤ n ∧ n ≤ 1600000 := by omega
theorem td8 {x y : Int} (h : -(400 * 20) ≤ x ∧ x ≤ 400 * 20) (h2 : y.natAbs ≤ x.natAbs) : -8000 ≤ y ∧ y ≤ 8000 := by omega
theorem mk8 {a b up under : Int} (h1 : -(1600000 * 8000000) ≤ a ∧ a ≤ 1600000 * 8000000) (h2 : -(64000000 * 20) ≤ b ∧ b ≤ 64000000 * 20) (h3 : up.natAbs ≤ a.natAbs ∧ under.natAbs ≤ b.natAbs) (h4 : 0 < under) : (-12800000000000 ≤ up ∧ up ≤ 12800000000000) ∧ (0 < under ∧ under ≤ 1280000000) := by omega
theorem isRt_ex (n : Nat) : ∃ r, IsRt n r := by
 induction n with
 | zero => exact ⟨0, by decide, by decide, by decide⟩
 | succ k ih =>
  obtain ⟨r, h0, h1, h2⟩ := ih
  by_cases h : (k : Int) + 1 < (r + 1) * (r + 1)
  ·exact ⟨r, h0, by omega, by omega⟩
  ·have : (r + 1 + 1) * (r + 1 + 1) = (r + 1) * (r + 1) + 2 * r + 3 := by grind
   exact ⟨r + 1, by omega, by omega, by omega⟩
theorem rtV_spec {n : Int} (h : 0 ≤ n) : IsRt n (rtV n) := by
 obtain ⟨r, hr⟩ := isRt_ex n.toNat
 rw [Int.toNat_of_nonneg h] at hr
 rw [rtV_eq hr]; exact hr
theorem mk_bds2 (a b : Int) : (mkN a b).natAbs ≤ a.natAbs ∧ (mkD a b).natAbs ≤ b.natAbs := by
 have q1 := tdiv_bd a (gcdI a b)
 have q2 := tdiv_bd b (gcdI a b)
 unfold mkN mkD
 split <;> omega
theorem ptAdd_any (A B x1 y1 e1 x2 y2 e2 : Int) (w : World) (hA : -1000 ≤ A ∧ A ≤ 1000) (hB : -10000 ≤ B ∧ B ≤ 10000) (hp : ptB A B x1 y1 e1 = true) (hq : ptB A B x2 y2 e2 = true) :
  Calls Tryz.prog 54 #[.agg #[.int .i64 A, .int .i64 B], .agg #[.int .i64 x1, .int .i64 y1, .int .i64 e1], .agg #[.int .i64 x2, .int .i64 y2, .int .i64 e2]] w fun e w' =>
   e = .returned (.tuple #[.agg #[.int .i64 (ptS A x1 y1 e1 x2 y2 e2).1, .int .i64 (ptS A x1 y1 e1 x2 y2 e2).2.1, .int .i64 (ptS A x1 y1 e1 x2 y2 e2).2.2.1], .bool (ptS A x1 y1 e1 x2 y2 e2).2.2.2]) ∧ Below w.heap.size w w' := by
 rcases pt_cases hA hB hp with ⟨rfl, rfl, rfl⟩ | ⟨he1, hx1, hy1, hg1, hc1⟩
 ·rw [show ptS A 0 0 0 x2 y2 e2 = (x2, y2, e2, true) by simp [ptS]]
  clear hp hq
  have tok1 := trivial
  have tok2 := trivial
  have tok3 := trivial
  have tok4 := trivial
  have tok5 := trivial
  have tok6 := trivial
  have tok7 := trivial
  go_enter Tryz.func54, Tryz.ntmps54
  go_wp2_with fail
  refine bodyPost_ret (v := _) (by simp [results, Tryz.results54, go_sem, *]) rfl ⟨rfl, ?_⟩
  exact bel
 rcases pt_cases hA hB hq with ⟨rfl, rfl, rfl⟩ | ⟨he2, hx2, hy2, hg2, hc2⟩
 ·rw [show ptS A x1 y1 e1 0 0 0 = (x1, y1, e1, true) by simp [ptS]; omega]
  have hz1 : e1 ≠ 0 := by omega
  clear hp hq
  have tok1 := trivial
  have tok2 := trivial
  have tok3 := trivial
  have tok4 := trivial
  have tok5 := trivial
  have tok6 := trivial
  have tok7 := trivial
  go_enter Tryz.func54, Tryz.ntmps54
  go_wp2_with fail
  refine bodyPost_ret (v := _) (by simp [results, Tryz.results54, go_sem, *]) rfl ⟨rfl, ?_⟩
  exact bel
 have hz1 : e1 ≠ 0 := by omega
 have hz2 : e2 ≠ 0 := by omega
 have T1 := fun W : World => Lib.hid (ptSlope_any A B x1 y1 e1 x2 y2 e2 W hA hx1 hx2 hy1 hy2 he1 he2)
 have HZ := sl_zero he1.1 he2.1 hg1 hg2 hc1 hc2
 by_cases hz : slD x1 y1 e1 x2 y2 e2 = 0
 ·rw [show ptS A x1 y1 e1 x2 y2 e2 = (0, 0, 0, true) by simp only [ptS, if_neg hz1, if_neg hz2, if_pos (HZ.1 hz)]]
  simp only [if_pos hz] at T1
  have T2 := T1; have T3 := T1; have T4 := T1; have T5 := T1; have T6 := T1; have T7 := T1
  clear hp hq hc1 hc2 hg1 hg2 HZ hz
  have tok1 := trivial
  have tok2 := trivial
  have tok3 := trivial
  have tok4 := trivial
  have tok5 := trivial
  have tok6 := trivial
  have tok7 := trivial
  go_enter Tryz.func54, Tryz.ntmps54
  go_wp2_with (first | (have _t := tok1; go_at_call 86; (with_reducible refine ((T1 _).out).mono ?_); rintro e w1 ⟨rfl, hb1⟩; clear tok1 _t; have hz1 := hb1.size; (try simp only [sA, sB, sC, sD] at hz1); (try (obtain ⟨qa, qb, qq⟩ := cf2 hb1 (w.heap.size); simp [go_sem, *] at qa qb qq)); (try have xz : w.heap.size < w1.heap.size := by omega); (try (obtain ⟨qc, qf, qg, qr⟩ := cf3 hb1 (w.heap.size + 1); simp [go_sem, *] at qc qf qg qr)); (try have za : w.heap.size + 1 < w1.heap.size := by omega); (try (obtain ⟨qh, qi, qj, qt⟩ := cf3 hb1 (w.heap.size + 1 + 1); simp [go_sem, *] at qh qi qj qt)); (try have zb : w.heap.size + 1 + 1 < w1.heap.size := by omega); (try (obtain ⟨qk, ql, qm, qu⟩ := cf3 hb1 (w.heap.size + 1 + 1 + 1); simp [go_sem, *] at qk ql qm qu)); (try have zc : w.heap.size + 1 + 1 + 1 < w1.heap.size := by omega)) | (go_at_call 73; (with_reducible refine ((T2 _).out).mono ?_); rintro e w' ⟨rfl, rfl⟩) | (have _t := tok3; go_at_call 87; (with_reducible refine ((T3 _).out).mono ?_); rintro e w3 ⟨rfl, hb3⟩; clear tok3 _t; have hz3 := hb3.size; (try simp only [sA, sB, sC, sD] at hz3); (try (obtain ⟨zg, zh, vd⟩ := cf2 hb3 (w.heap.size); simp [go_sem, *] at zg zh vd)); (try have uh : w.heap.size < w3.heap.size := by omega); (try (obtain ⟨zi, zj, zk, vf⟩ := cf3 hb3 (w.heap.size + 1); simp [go_sem, *] at zi zj zk vf)); (try have ui : w.heap.size + 1 < w3.heap.size := by omega); (try (obtain ⟨zl, zm, zn, vg⟩ := cf3 hb3 (w.heap.size + 1 + 1); simp [go_sem, *] at zl zm zn vg)); (try have uj : w.heap.size + 1 + 1 < w3.heap.size := by omega); (try (obtain ⟨zo, zp, zq, vh⟩ := cf3 hb3 (w.heap.size + 1 + 1 + 1); simp [go_sem, *] at zo zp zq vh)); (try have uk : w.heap.size + 1 + 1 + 1 < w3.heap.size := by omega); (try clear qa qb qq); (try clear xz); (try clear qc qf qg qr); (try clear za); (try clear qh qi qj qt); (try clear zb); (try clear qk ql qm qu); (try clear zc); (try clear wj wk ul); (try clear um); (try clear wl wm wn uq); (try clear ur); (try clear wo wq ws us); (try clear ut); (try clear wt wu wv uw); (try clear ux)) | (go_at_call 47; (with_reducible refine ((T4 _).out).mono ?_); rintro e w' ⟨rfl, rfl⟩) | (go_at_call 48; (with_reducible refine ((T5 _).out).mono ?_); rintro e w' ⟨rfl, rfl⟩))
  refine bodyPost_ret (v := _) (by simp [results, Tryz.results54, go_sem, *]) rfl ⟨rfl, ?_⟩
  exact bel
 simp only [if_neg hz] at T1
 rw [ptS_thV hz1 hz2 (fun t => hz (HZ.2 t))]
 have hlow := fun r => thV_low (A := A) (r := r) he1 he2 hz
 have hfar := ref_far (A := A) he1 he2 hx1 hx2 hz
 obtain ⟨g, -, -, -, hd, -⟩ := mk_low (slN A x1 y1 e1 x2 y2 e2) (slD x1 y1 e1 x2 y2 e2) hz
 have hbd := sl_bd hA hx1 hx2 hy1 hy2 he1 he2
 have hcv := fun (e x : Int) he h => sl_curve (e := e) (x := x) he1.1 he2.1 hc1 hc2 hz he h
 have hb1 : -48000000000 ≤ slN A x1 y1 e1 x2 y2 e2 ∧ slN A x1 y1 e1 x2 y2 e2 ≤ 48000000000 := by unfold slN; split <;> omega
 have hb2 : -3200000000 ≤ slD x1 y1 e1 x2 y2 e2 ∧ slD x1 y1 e1 x2 y2 e2 ≤ 3200000000 := by unfold slD; split <;> omega
 have hmb := mk_bds2 (slN A x1 y1 e1 x2 y2 e2) (slD x1 y1 e1 x2 y2 e2)
 obtain ⟨g, hg0, hgn, hgd, hd, -⟩ := mk_low (slN A x1 y1 e1 x2 y2 e2) (slD x1 y1 e1 x2 y2 e2) hz
 generalize mkN (slN A x1 y1 e1 x2 y2 e2) (slD x1 y1 e1 x2 y2 e2) = n at *
 generalize mkD (slN A x1 y1 e1 x2 y2 e2) (slD x1 y1 e1 x2 y2 e2) = d at *
 have hS : ∀ e x : Int, 1 ≤ e → thX n d x1 e1 x2 e2 e x → ∃ y, sdV n d x1 y1 e1 e x * e = (d*(e1*e1*e1))*y ∧ y*y = evV A B x e := by
  intro e x he ht
  obtain ⟨y, h1, h2⟩ := hcv e x he (by rw [hgn, hgd]; exact (thX_scale hg0 ..).2 ht)
  exact ⟨y, (sd_scale hg0 ..).1 (by rw [← hgn, ← hgd]; exact h1), h2⟩
 clear hcv hgn hgd hg0 HZ hp hq hc1 hc2 hg1 hg2 hbd
 generalize thV (slN A x1 y1 e1 x2 y2 e2) (slD x1 y1 e1 x2 y2 e2) x1 y1 e1 x2 e2 = R at *
 have hn1 : -48000000000 ≤ n ∧ n ≤ 48000000000 := by omega
 have hd1 : 0 < d ∧ d ≤ 3200000000 := by omega
 clear hb1 hb2 hmb hz
 have hd0 : d ≠ 0 := by omega
 by_cases hf : d ≤ 8000 ∧ (-(200 * d) ≤ n ∧ n ≤ 200 * d)
 ·have T2 := fun W : World => Lib.hid (l1Abs_any n W (by omega) (by omega))
  have hf3 : absI n ≤ 200 * d := by unfold absI; omega
  have hf4 := absI_nonneg n
  clear hfar
  -- the words of the walk, with their bounds
  have pe1 := mul_bd (a := e1) (b := e1) (A := 20) (B := 20) (by omega) (by omega)
  have pe2 := mul_bd (a := e2) (b := e2) (A := 20) (B := 20) (by omega) (by omega)
  have k1 := mul_bd (a := n) (b := n) (A := 1600000) (B := 1600000) (by omega) (by omega)
  have k2 := mul_bd (a := n*n) (b := e1*e1) (A := 2560000000000) (B := 400) (by omega) (by omega)
  have k3 := mul_bd (a := n*n*(e1*e1)) (b := e2*e2) (A := 1024000000000000) (B := 400) (by omega) (by omega)
  have k4 := mul_bd (a := x1) (b := d) (A := 10000) (B := 8000) (by omega) (by omega)
  have k5 := mul_bd (a := x1*d) (b := d) (A := 80000000) (B := 8000) (by omega) (by omega)
  have k6 := mul_bd (a := x1*d*d) (b := e2*e2) (A := 640000000000) (B := 400) (by omega) (by omega)
  have k7 := mul_bd (a := x2) (b := d) (A := 10000) (B := 8000) (by omega) (by omega)
  have k8 := mul_bd (a := x2*d) (b := d) (A := 80000000) (B := 8000) (by omega) (by omega)
  have k9 := mul_bd (a := x2*d*d) (b := e1*e1) (A := 640000000000) (B := 400) (by omega) (by omega)
  have k10 := mul_bd (a := d) (b := d) (A := 8000) (B := 8000) (by omega) (by omega)
  have k11 := mul_bd (a := d*d) (b := e1*e1) (A := 64000000) (B := 400) (by omega) (by omega)
  have k12 := mul_bd (a := d*d*(e1*e1)) (b := e2*e2) (A := 25600000000) (B := 400) (by omega) (by omega)
  have HD := ref_D (d := d) (e1 := e1) (e2 := e2) (by omega) he1 he2
  obtain ⟨r1, r2, r3⟩ := ref_x (n := n) (d := d) (x1 := x1) (e1 := e1) (x2 := x2) (e2 := e2) (by omega) he1 he2 rfl
  have hno := ref_no (y1 := y1) (n := n) (d := d) (x1 := x1) (e1 := e1) (x2 := x2) (e2 := e2) (by omega) he1 he2 rfl
  have hyes := fun x E e => ref_yes (n := n) (d := d) (x1 := x1) (e1 := e1) (x2 := x2) (e2 := e2) (x := x) (E := E) (e := e) (by omega) he1 he2 rfl
  have T3 := fun W : World => Lib.hid (ecPart_any (n*n*(e1*e1)*(e2*e2) - x1*d*d*(e2*e2) - x2*d*d*(e1*e1)) (d*d*(e1*e1)*(e2*e2)) W (by omega) (by omega) (by omega) (by omega) (by omega))
  have hEb := (mk_bds2 (n*n*(e1*e1)*(e2*e2) - x1*d*d*(e2*e2) - x2*d*d*(e1*e1)) (d*d*(e1*e1)*(e2*e2))).2
  have hE2 : (d*d*(e1*e1)*(e2*e2)).natAbs ≤ 10240000000000 := by omega
  generalize mkN (n*n*(e1*e1)*(e2*e2) - x1*d*d*(e2*e2) - x2*d*d*(e1*e1)) (d*d*(e1*e1)*(e2*e2)) = x at *
  generalize mkD (n*n*(e1*e1)*(e2*e2) - x1*d*d*(e2*e2) - x2*d*d*(e1*e1)) (d*d*(e1*e1)*(e2*e2)) = E at *
  clear r1 r3
  have T4 := fun W : World => Lib.hid (frRoot_any E W (by omega) (by omega))
  have T5 := fun W : World => Lib.hid (l1In_any x (-10000) 10000 W)
  have hrt := rtV_spec (n := E) (by omega)
  generalize rtV E = e at *
  obtain ⟨q1, q2, q3⟩ := hrt
  have q4 : e ≤ 3200000 := (sq_le_abs (a := e) (b := 3200000) (by omega) (by omega)).2
  have k13 := mul_bd (a := e) (b := e) (A := 3200000) (B := 3200000) (by omega) (by omega)
  have TKK := hyes
  clear hyes
  have hn8 := bd9 hf
  clear hEb hE2
  have tok1 := trivial
  have tok2 := trivial
  have tok3 := trivial
  have tok4 := trivial
  have tok5 := trivial
  have tok6 := trivial
  have tok7 := trivial
  go_enter Tryz.func54, Tryz.ntmps54
  go_upto_region 5 with fail
  refine chk (fun W => Below w.heap.size w W ∧ W.heap[w.heap.size]? = some (.cells #[.int .i64 A, .int .i64 B] 35 (0, 0)) ∧ W.heap[w.heap.size + 1]? = some (.cells #[.int .i64 x1, .int .i64 y1, .int .i64 e1] 45 (0, 0)) ∧ W.heap[w.heap.size + 1 + 1]? = some (.cells #[.int .i64 x2, .int .i64 y2, .int .i64 e2] 45 (0, 0)) ∧ W.heap[w.heap.size + 1 + 1 + 1]? = some (.cells #[.int .i64 0, .int .i64 0, .int .i64 0] 45 (0, 0))) (by refine ⟨?_, ?_, ?_, ?_, ?_⟩ <;> (exact ck)) ?_
  rintro w10 ⟨hB10, qw, qz, xa, xb⟩
  obtain ⟨zr, zt, vi, uy⟩ := bk2 qw
  replace qw := Lib.hid qw
  obtain ⟨zu, zv, zw, vj, uz⟩ := bk3 qz
  replace qz := Lib.hid qz
  obtain ⟨zx, zy, zz, vk, gc⟩ := bk3 xa
  replace xa := Lib.hid xa
  obtain ⟨jc, jd, je, vl, gd⟩ := bk3 xb
  replace xb := Lib.hid xb
  go_upto_region 6 with (first | (have _t := tok1; go_at_call 86; (with_reducible refine ((T1 _).out).mono ?_); rintro e w1 ⟨rfl, hb1⟩; clear tok1 _t; have hz1 := hb1.size; (try simp only [sA, sB, sC, sD] at hz1)) | (go_at_call 73; (with_reducible refine ((T2 _).out).mono ?_); rintro e w' ⟨rfl, rfl⟩))
  have xh := (hb1.block (w.heap.size) (blk_lt' qw.out)).trans qw.out
  clear zr zt vi qw
  obtain ⟨jq, jr, vq, gi⟩ := bk2 xh
  replace xh := Lib.hid xh
  have xi := (hb1.block (w.heap.size + 1) (blk_lt' qz.out)).trans qz.out
  clear zu zv zw vj qz
  obtain ⟨jt, ju, jv, vr, gj⟩ := bk3 xi
  replace xi := Lib.hid xi
  have xj := (hb1.block (w.heap.size + 1 + 1) (blk_lt' xa.out)).trans xa.out
  clear zx zy zz vk xa
  obtain ⟨jw, jx, jy, vt, gk⟩ := bk3 xj
  replace xj := Lib.hid xj
  have xk := (hb1.block (w.heap.size + 1 + 1 + 1) (blk_lt' xb.out)).trans xb.out
  clear jc jd je vl xb
  obtain ⟨jz, ya, yb, vu, gl⟩ := bk3 xk
  replace xk := Lib.hid xk
  have hB1 : Below w.heap.size w w1 := below_via hb1 (by assumption) (by first | exact hB10.size | go_size)
  go_upto_region 10 with (first | (have _t := tok1; go_at_call 86; (with_reducible refine ((T1 _).out).mono ?_); rintro e w1 ⟨rfl, hb1⟩; clear tok1 _t; have hz1 := hb1.size; (try simp only [sA, sB, sC, sD] at hz1)) | (go_at_call 73; (with_reducible refine ((T2 _).out).mono ?_); rintro e w' ⟨rfl, rfl⟩))
  go_region
  go_upto_region 11 with fail
  replace xh := xh.out
  replace xi := xi.out
  replace xj := xj.out
  replace xk := xk.out
  refine chk (fun W => Below w.heap.size w W ∧ W.heap[w.heap.size]? = some (.cells #[.int .i64 A, .int .i64 B] 35 (0, 0)) ∧ W.heap[w.heap.size + 1]? = some (.cells #[.int .i64 x1, .int .i64 y1, .int .i64 e1] 45 (0, 0)) ∧ W.heap[w.heap.size + 1 + 1]? = some (.cells #[.int .i64 x2, .int .i64 y2, .int .i64 e2] 45 (0, 0)) ∧ W.heap[w.heap.size + 1 + 1 + 1]? = some (.cells #[.int .i64 0, .int .i64 0, .int .i64 0] 45 (0, 0))) (by refine ⟨?_, ?_, ?_, ?_, ?_⟩ <;> (exact ck)) ?_
  clear jq jr vq xh
  clear jt ju jv vr xi
  clear jw jx jy vt xj
  clear jz ya yb vu xk
  clear hB1
  rintro w20 ⟨hB20, xc, xe, xf, xg⟩
  obtain ⟨jf, jg, vm, ge⟩ := bk2 xc
  replace xc := Lib.hid xc
  obtain ⟨jh, ji, jj, vn, gf⟩ := bk3 xe
  replace xe := Lib.hid xe
  obtain ⟨jk, jl, jm, vo, gg⟩ := bk3 xf
  replace xf := Lib.hid xf
  obtain ⟨jn, jo, jp, vp, gh⟩ := bk3 xg
  replace xg := Lib.hid xg
  go_upto_region 12 with (first | (have _t := tok3; go_at_call 87; (with_reducible refine ((T3 _).out).mono ?_); rintro e w3 ⟨rfl, hb3⟩; clear tok3 _t; have hz3 := hb3.size; (try simp only [sA, sB, sC, sD] at hz3)))
  have xl := (hb3.block (w.heap.size) (blk_lt' xc.out)).trans xc.out
  clear jf jg vm xc
  obtain ⟨yc, ye, vv, gm⟩ := bk2 xl
  replace xl := Lib.hid xl
  have xm := (hb3.block (w.heap.size + 1) (blk_lt' xe.out)).trans xe.out
  clear jh ji jj vn xe
  obtain ⟨yf, yg, yh, vw, gn⟩ := bk3 xm
  replace xm := Lib.hid xm
  have xp := (hb3.block (w.heap.size + 1 + 1) (blk_lt' xf.out)).trans xf.out
  clear jk jl jm vo xf
  obtain ⟨yi, yj, yk, vx, gp⟩ := bk3 xp
  replace xp := Lib.hid xp
  have qp := (hb3.block (w.heap.size + 1 + 1 + 1) (blk_lt' xg.out)).trans xg.out
  clear jn jo jp vp xg
  obtain ⟨xq, xr, xt, vy, gr⟩ := bk3 qp
  replace qp := Lib.hid qp
  have hB3 : Below w.heap.size w w3 := below_via hb3 (by assumption) (by first | exact hB20.size | go_size)
  go_upto_region 13 with (first | (go_at_call 47; (with_reducible refine ((T4 _).out).mono ?_); rintro e w' ⟨rfl, rfl⟩) | (go_at_call 48; (with_reducible refine ((T5 _).out).mono ?_); rintro e w' ⟨rfl, rfl⟩))
  clear T1 T2 T3 T4 k1 k2 k3 k4 k5 k6 k7 k8 k9 k10 k11 k12 hf4 hf3 HD hn1
  by_cases h1 : e * e = E
  ·by_cases h2 : e ≤ 20
   ·cases h3 : inB x (-10000) 10000
    ·have HR := hlow _ (hno (fun t => by have := inB_false.1 h3; omega))
     rw [h3] at T5
     clear hlow hno TKK hS h3
     subst HR
     go_upto_region 14 with (first | (go_at_call 47; (with_reducible refine ((T4 _).out).mono ?_); rintro e w' ⟨rfl, rfl⟩) | (go_at_call 48; (with_reducible refine ((T5 _).out).mono ?_); rintro e w' ⟨rfl, rfl⟩))
     iterate 24 (first | (with_reducible show bodyPost _ _ _ _ _ _) | (with_reducible refine wp_ret ?_) | go_values | go_skip | go_guarded | go_step | go_upon | go_back | skip)
     refine bodyPost_ret (v := .tuple #[.agg #[.int .i64 0, .int .i64 0, .int .i64 0], .bool false]) (by simp [results, Tryz.results54, go_sem, xq, xr, xt]) rfl ⟨rfl, ?_⟩
     have HO := qp.out
     (exact ck)
    ·have hx := inB_iff.1 h3
     rw [h3] at T5
     obtain ⟨he, hgc, ht⟩ := TKK x E e rfl rfl q1 h1
     obtain ⟨y3, hy3, hv⟩ := hS e x he ht
     have HR := hlow _ (Or.inl ⟨x, y3, e, rfl, ⟨he, h2⟩, hx, hgc, ht, hy3⟩)
     have hv2 := evV_bd hA hB hx (e := e) (by omega)
     have hy3b := root_bd hv (by omega)
     have HP := ref_pt (n := n) (d := d) (x1 := x1) (y1 := y1) (e1 := e1) (e2 := e2) (x := x) (e := e) (y3 := y3) (by omega) he1 he2 he hy3 rfl rfl rfl rfl
     clear hlow hno TKK hS h3 hgc ht hy3 hv hv2
     subst HR
     have u1 := mul_bd (a := x1) (b := e) (A := 10000) (B := 20) (by omega) (by omega)
     have u2 := mul_bd (a := x1*e) (b := e) (A := 200000) (B := 20) (by omega) (by omega)
     have u3 := mul_bd (a := x) (b := e1*e1) (A := 10000) (B := 400) (by omega) (by omega)
     have u4 := mul_bd (a := n) (b := x1*e*e - x*(e1*e1)) (A := 1600000) (B := 8000000) (by omega) (by omega)
     have u5 := mul_bd (a := d) (b := e1*e1) (A := 8000) (B := 400) (by omega) (by omega)
     have u6 := mul_bd (a := d*(e1*e1)) (b := e) (A := 3200000) (B := 20) (by omega) (by omega)
     have u7 := mul_bd (a := d*(e1*e1)*e) (b := e) (A := 64000000) (B := 20) (by omega) (by omega)
     have p1 : 0 < e1*e1 := Int.mul_pos (by omega) (by omega)
     have p2 : 0 < d*(e1*e1)*e*e := Int.mul_pos (Int.mul_pos (Int.mul_pos (by omega) p1) (by omega)) (by omega)
     have T6 := fun W : World => Lib.hid (ecPart_any (n*(x1*e*e - x*(e1*e1))) (d*(e1*e1)*e*e) W (by omega) (by omega) (by omega) (by omega) (by omega))
     have hm1 := mk_bds2 (n*(x1*e*e - x*(e1*e1))) (d*(e1*e1)*e*e)
     generalize mkN (n*(x1*e*e - x*(e1*e1))) (d*(e1*e1)*e*e) = up at *
     generalize mkD (n*(x1*e*e - x*(e1*e1))) (d*(e1*e1)*e*e) = under at *
     have hm2 := mk8 u4 u7 hm1 HP.1
     clear hm1
     have v1 := mul_bd (a := up) (b := e1*e1) (A := 12800000000000) (B := 400) (by omega) (by omega)
     have v2 := mul_bd (a := up*(e1*e1)) (b := e1) (A := 5120000000000000) (B := 20) (by omega) (by omega)
     have v3 := mul_bd (a := y1) (b := under) (A := 3000000) (B := 1280000000) (by omega) (by omega)
     have v4 := mul_bd (a := under) (b := e1*e1) (A := 1280000000) (B := 400) (by omega) (by omega)
     have v5 := mul_bd (a := under*(e1*e1)) (b := e1) (A := 512000000000) (B := 20) (by omega) (by omega)
     have p3 : 0 < under*(e1*e1)*e1 := Int.mul_pos (Int.mul_pos (by omega) p1) (by omega)
     have T7 := fun W : World => Lib.hid (ecPart_any (up*(e1*e1)*e1 - y1*under) (under*(e1*e1)*e1) W (by omega) (by omega) (by omega) (by omega) (by omega))
     generalize mkN (up*(e1*e1)*e1 - y1*under) (under*(e1*e1)*e1) = y at *
     generalize mkD (up*(e1*e1)*e1 - y1*under) (under*(e1*e1)*e1) = bottom at *
     obtain ⟨-, hbot, hY⟩ := HP
     subst hY
     have hbz : bottom ≠ 0 := by omega
     have z0 := mul_bd (a := e) (b := e) (A := 20) (B := 20) (by omega) (by omega)
     have z1 := mul_bd (a := e*e) (b := e) (A := 400) (B := 20) (by omega) (by omega)
     have z2' := tdiv_bd (e*e*e) bottom
     have z2 := td8 z1 z2'
     clear z2'
     go_upto_region 15 with (first | (go_at_call 47; (with_reducible refine ((T4 _).out).mono ?_); rintro e w' ⟨rfl, rfl⟩) | (go_at_call 48; (with_reducible refine ((T5 _).out).mono ?_); rintro e w' ⟨rfl, rfl⟩))
     clear h1
     go_upto_region 16 with (first | (have _t := tok6; go_at_call 87; (with_reducible refine ((T6 _).out).mono ?_); rintro e w6 ⟨rfl, hb6⟩; clear tok6 _t; have hz6 := hb6.size; (try simp only [sA, sB, sC, sD] at hz6)))
     have xu := (hb6.block (w.heap.size) (blk_lt' xl.out)).trans xl.out
     clear yc ye vv xl
     obtain ⟨yl, ym, vz, gt⟩ := bk2 xu
     replace xu := Lib.hid xu
     have xv := (hb6.block (w.heap.size + 1) (blk_lt' xm.out)).trans xm.out
     clear yf yg yh vw xm
     obtain ⟨yp, yq, yr, wd, gu⟩ := bk3 xv
     replace xv := Lib.hid xv
     have xw := (hb6.block (w.heap.size + 1 + 1) (blk_lt' xp.out)).trans xp.out
     clear yi yj yk vx xp
     obtain ⟨yt, yu, yv, wg, gv⟩ := bk3 xw
     replace xw := Lib.hid xw
     have xx := (hb6.block (w.heap.size + 1 + 1 + 1) (blk_lt' qp.out)).trans qp.out
     clear xq xr xt vy qp
     obtain ⟨yw, yx, yz, wi, gy⟩ := bk3 xx
     replace xx := Lib.hid xx
     have hB6 : Below w.heap.size w w6 := below_via hb6 (by assumption) (by first | exact hB3.size | go_size)
     clear u1 u2 u3 u4 u5 u6 u7 T6
     go_upto_region 17 with (first | (have _t := tok7; go_at_call 87; (with_reducible refine ((T7 _).out).mono ?_); rintro e w7 ⟨rfl, hb7⟩; clear tok7 _t; have hz7 := hb7.size; (try simp only [sA, sB, sC, sD] at hz7)))
     have zd := (hb7.block (w.heap.size) (blk_lt' xu.out)).trans xu.out
     clear yl ym vz xu
     obtain ⟨ww, wz, gz, ka⟩ := bk2 zd
     replace zd := Lib.hid zd
     have ze := (hb7.block (w.heap.size + 1) (blk_lt' xv.out)).trans xv.out
     clear yp yq yr wd xv
     obtain ⟨ua, ub, uc, kb, kc⟩ := bk3 ze
     replace ze := Lib.hid ze
     have zf := (hb7.block (w.heap.size + 1 + 1) (blk_lt' xw.out)).trans xw.out
     clear yt yu yv wg xw
     obtain ⟨ue, uf, ug, ke, kg⟩ := bk3 zf
     replace zf := Lib.hid zf
     have xy := (hb7.block (w.heap.size + 1 + 1 + 1) (blk_lt' xx.out)).trans xx.out
     clear yw yx yz wi xx
     obtain ⟨va, vb, vc, kh, ki⟩ := bk3 xy
     replace xy := Lib.hid xy
     have hB7 : Below w.heap.size w w7 := below_via hb7 (by assumption) (by first | exact hB6.size | go_size)
     clear v1 v2 v3 v4 v5 T7
     iterate 80 (first | (with_reducible show bodyPost _ _ _ _ _ _) | (with_reducible refine wp_ret ?_) | go_values | go_skip | go_guarded | go_step | go_upon | go_back | skip)
     refine bodyPost_ret (v := .tuple #[.agg #[.int .i64 x, .int .i64 (y * (e*e*e).tdiv bottom), .int .i64 e], .bool true]) (by simp [results, Tryz.results54, go_sem, va, vb, vc]) rfl ⟨rfl, ?_⟩
     have HO := xy.out
     (exact ck)
   ·have HR := hlow _ (hno (fun t => h2 t.2.1))
    have h4 : 20 < e := by omega
    clear hlow hno TKK hS h2
    subst HR
    go_upto_region 14 with (first | (go_at_call 47; (with_reducible refine ((T4 _).out).mono ?_); rintro e w' ⟨rfl, rfl⟩) | (go_at_call 48; (with_reducible refine ((T5 _).out).mono ?_); rintro e w' ⟨rfl, rfl⟩))
    iterate 24 (first | (with_reducible show bodyPost _ _ _ _ _ _) | (with_reducible refine wp_ret ?_) | go_values | go_skip | go_guarded | go_step | go_upon | go_back | skip)
    refine bodyPost_ret (v := .tuple #[.agg #[.int .i64 0, .int .i64 0, .int .i64 0], .bool false]) (by simp [results, Tryz.results54, go_sem, xq, xr, xt]) rfl ⟨rfl, ?_⟩
    have HO := qp.out
    (exact ck)
  ·have HR := hlow _ (hno (fun t => h1 t.1))
   clear hlow hno TKK hS
   subst HR
   go_upto_region 14 with (first | (go_at_call 47; (with_reducible refine ((T4 _).out).mono ?_); rintro e w' ⟨rfl, rfl⟩) | (go_at_call 48; (with_reducible refine ((T5 _).out).mono ?_); rintro e w' ⟨rfl, rfl⟩))
   iterate 24 (first | (with_reducible show bodyPost _ _ _ _ _ _) | (with_reducible refine wp_ret ?_) | go_values | go_skip | go_guarded | go_step | go_upon | go_back | skip)
   refine bodyPost_ret (v := .tuple #[.agg #[.int .i64 0, .int .i64 0, .int .i64 0], .bool false]) (by simp [results, Tryz.results54, go_sem, xq, xr, xt]) rfl ⟨rfl, ?_⟩
   have HO := qp.out
   (exact ck)
 ·have T2 := fun W : World => Lib.hid (l1Abs_any n W (by omega) (by omega))
  rw [hfar hf]
  clear hfar hlow hS
  by_cases hf1 : d ≤ 8000
  ·have hf2 : 200 * d < absI n := by unfold absI; omega
   have hf3 : absI n ≤ 48000000000 := absI_le (by omega) (by omega)
   generalize absI n = m at *
   have tok1 := trivial
   have tok2 := trivial
   have tok3 := trivial
   have tok4 := trivial
   have tok5 := trivial
   have tok6 := trivial
   have tok7 := trivial
   go_enter Tryz.func54, Tryz.ntmps54
   go_upto_region 9 with (first | (have _t := tok1; go_at_call 86; (with_reducible refine ((T1 _).out).mono ?_); rintro e w1 ⟨rfl, hb1⟩; clear tok1 _t; have hz1 := hb1.size; (try simp only [sA, sB, sC, sD] at hz1); (try (obtain ⟨qa, qb, qq⟩ := cf2 hb1 (w.heap.size); simp [go_sem, *] at qa qb qq)); (try have xz : w.heap.size < w1.heap.size := by omega); (try (obtain ⟨qc, qf, qg, qr⟩ := cf3 hb1 (w.heap.size + 1); simp [go_sem, *] at qc qf qg qr)); (try have za : w.heap.size + 1 < w1.heap.size := by omega); (try (obtain ⟨qh, qi, qj, qt⟩ := cf3 hb1 (w.heap.size + 1 + 1); simp [go_sem, *] at qh qi qj qt)); (try have zb : w.heap.size + 1 + 1 < w1.heap.size := by omega); (try (obtain ⟨qk, ql, qm, qu⟩ := cf3 hb1 (w.heap.size + 1 + 1 + 1); simp [go_sem, *] at qk ql qm qu)); (try have zc : w.heap.size + 1 + 1 + 1 < w1.heap.size := by omega)) | (go_at_call 73; (with_reducible refine ((T2 _).out).mono ?_); rintro e w' ⟨rfl, rfl⟩))
   iterate 40 (first | (with_reducible show bodyPost _ _ _ _ _ _) | (with_reducible refine wp_ret ?_) | go_values | go_skip | go_guarded | go_step | go_upon | go_back | skip)
   refine bodyPost_ret (v := _) (by simp [results, Tryz.results54, go_sem, *]) rfl ⟨rfl, ?_⟩
   exact bel
  ·have hf2 : 8000 < d := by omega
   clear hf hf1
   have tok1 := trivial
   have tok2 := trivial
   have tok3 := trivial
   have tok4 := trivial
   have tok5 := trivial
   have tok6 := trivial
   have tok7 := trivial
   go_enter Tryz.func54, Tryz.ntmps54
   go_upto_region 9 with (first | (have _t := tok1; go_at_call 86; (with_reducible refine ((T1 _).out).mono ?_); rintro e w1 ⟨rfl, hb1⟩; clear tok1 _t; have hz1 := hb1.size; (try simp only [sA, sB, sC, sD] at hz1); (try (obtain ⟨qa, qb, qq⟩ := cf2 hb1 (w.heap.size); simp [go_sem, *] at qa qb qq)); (try have xz : w.heap.size < w1.heap.size := by omega); (try (obtain ⟨qc, qf, qg, qr⟩ := cf3 hb1 (w.heap.size + 1); simp [go_sem, *] at qc qf qg qr)); (try have za : w.heap.size + 1 < w1.heap.size := by omega); (try (obtain ⟨qh, qi, qj, qt⟩ := cf3 hb1 (w.heap.size + 1 + 1); simp [go_sem, *] at qh qi qj qt)); (try have zb : w.heap.size + 1 + 1 < w1.heap.size := by omega); (try (obtain ⟨qk, ql, qm, qu⟩ := cf3 hb1 (w.heap.size + 1 + 1 + 1); simp [go_sem, *] at qk ql qm qu)); (try have zc : w.heap.size + 1 + 1 + 1 < w1.heap.size := by omega)) | (go_at_call 73; (with_reducible refine ((T2 _).out).mono ?_); rintro e w' ⟨rfl, rfl⟩))
   iterate 40 (first | (with_reducible show bodyPost _ _ _ _ _ _) | (with_reducible refine wp_ret ?_) | go_values | go_skip | go_guarded | go_step | go_upon | go_back | skip)
   refine bodyPost_ret (v := _) (by simp [results, Tryz.results54, go_sem, *]) rfl ⟨rfl, ?_⟩
   exact bel
end Go.Proofs.YtnemnkbcbokafaaGreat
