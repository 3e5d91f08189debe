/- Lemmas and contracts of functions. No condition. -/
import Derived.Test.YtnkmgpmehkholaaGreatPq16
import Derived.Test.YtnkmgpmehkholaaGreatPq17
import Derived.Test.YtnkmgpmehkholaaGreatPq22
import Derived.Test.YtnkmgpmehkholaaGreatPq45
namespace Go.Proofs.YtnkmgpmehkholaaGreat
section
open Go.RowKit
set_option linter.unusedVariables false
set_option maxHeartbeats 1000000
set_option maxRecDepth 20000
set_option linter.unusedSimpArgs false
attribute [local go_sem] openAt openUpon
abbrev I5 := Int × Int × Int × Int × Bool
theorem i5_open (r : I5) : ∃ a b c d e, r = (a, b, c, d, e) := ⟨_, _, _, _, _, rfl⟩
noncomputable def BL (A B x e : Int) : Int := bLo (dcV A B) (ptSt A B x e) (bestN (ptSt A B x e))
noncomputable def BH (A B x e : Int) : Int := bHi (dcV A B) (ptSt A B x e) (bestN (ptSt A B x e))
noncomputable def BK (A B x e : Int) : Bool := beOk (dcV A B) (ptSt A B x e)
/-- a span as an interval's four numbers -/
noncomputable def mk5 (a b : Int) : I5 := (mkN a 4096, mkD a 4096, mkN b 4096, mkD b 4096, true)
theorem BK_valid {A B x e : Int} (h : BK A B x e = true) : validB (BL A B x e) (BH A B x e) = true := by
 rcases be_lit (dcV A B) (ptSt A B x e) with ⟨_, hv, _⟩ | ⟨h2, _⟩
 ·exact hv
 ·unfold BK at h; rw [h2] at h; cases h
theorem B_bd {A B x y e : Int} (h : pqB A B x y e = true) : (0 ≤ BL A B x e ∧ BL A B x e ≤ 14100000) ∧ (0 ≤ BH A B x e ∧ BH A B x e ≤ 14100000) := best_bd h
/-- the best height as an interval, or nothing -/
noncomputable def hgV (A B x e : Int) : I5 := if BK A B x e = true then mk5 (BL A B x e) (BH A B x e) else ivZ
theorem hpHeight_any {A B x y e : Int} (w : World) (h : pqB A B x y e = true) : Calls Tryz.prog 25 #[.agg #[.int .i64 A, .int .i64 B], .agg #[.int .i64 x, .int .i64 y, .int .i64 e]] w fun r w' =>
  r = .returned (.tuple #[.agg #[.int .i64 (hgV A B x e).1, .int .i64 (hgV A B x e).2.1, .int .i64 (hgV A B x e).2.2.1, .int .i64 (hgV A B x e).2.2.2.1], .bool (hgV A B x e).2.2.2.2]) ∧ Below w.heap.size w w' := by
 have hb := pq_bd h
 have T1 := fun W : World => Lib.hid (chBest_any A B x y e W hb.1 hb.2.1 hb.2.2.1 hb.2.2.2.1 hb.2.2.2.2)
 have E : hgV A B x e = (beN1 (dcV A B) (ptSt A B x e), beD1 (dcV A B) (ptSt A B x e), beN2 (dcV A B) (ptSt A B x e), beD2 (dcV A B) (ptSt A B x e), beOk (dcV A B) (ptSt A B x e)) := by
  unfold hgV BK mk5 BL BH
  rcases be_lit (dcV A B) (ptSt A B x e) with ⟨h1, _, h3, h4, h5, h6, _⟩ | ⟨h1, _, h3, h4, h5, h6, _⟩
  ·rw [h1, h3, h4, h5, h6]; rfl
  ·rw [h1, h3, h4, h5, h6]; rfl
 rw [E]
 clear E h hb
 generalize beN1 (dcV A B) (ptSt A B x e) = i1 at *
 generalize beD1 (dcV A B) (ptSt A B x e) = i2 at *
 generalize beN2 (dcV A B) (ptSt A B x e) = i3 at *
 generalize beD2 (dcV A B) (ptSt A B x e) = i4 at *
 generalize beK (dcV A B) (ptSt A B x e) = i5 at *
 generalize beOk (dcV A B) (ptSt A B x e) = i6 at *
 have tok1 := trivial
 go_enter Tryz.func25, Tryz.ntmps25
 go_wp2_with (first | (have _t := tok1; go_at_call 48; (with_reducible refine ((T1 _).out).mono ?_); rintro e w1 ⟨rfl, hb1⟩; clear tok1 _t; have hz1 := hb1.size; (try simp only [sA, sB, sC, sD] at hz1); (try (obtain ⟨kq, ql⟩ := cfAt hb1 (w.heap.size); have qc := kq 0; have qd := kq 1; clear kq; simp [go_sem, *] at qc qd ql)); (try have qo : w.heap.size < w1.heap.size := by omega); (try (obtain ⟨kq, qm⟩ := cfAt hb1 (w.heap.size + 1); have qe := kq 0; have qf := kq 1; have qg := kq 2; clear kq; simp [go_sem, *] at qe qf qg qm)); (try have qq : w.heap.size + 1 < w1.heap.size := by omega); (try (obtain ⟨kq, qn⟩ := cfAt hb1 (w.heap.size + 1 + 1); have qh := kq 0; have qi := kq 1; have qj := kq 2; have qk := kq 3; clear kq; simp [go_sem, *] at qh qi qj qk qn)); (try have qr : w.heap.size + 1 + 1 < w1.heap.size := by omega)))
 refine bodyPost_ret (v := _) (by simp [results, Tryz.results25, go_sem, *]) rfl ⟨rfl, ?_⟩
 exact bel
/-- the sum of a span with itself -/
noncomputable def slV (A B x e : Int) : I5 := if (BK A B x e && validB (BL A B x e + BL A B x e) (BH A B x e + BH A B x e)) = true then mk5 (BL A B x e + BL A B x e) (BH A B x e + BH A B x e) else ivZ
noncomputable def spV (A B x y e : Int) : I5 := if pqB A B x y e = true then slV A B x e else ivZ
end
section
open Go.RowKit
set_option linter.unusedVariables false
set_option maxHeartbeats 4000000
set_option maxRecDepth 20000
set_option linter.unusedSimpArgs false
attribute [local go_sem] openAt openUpon
/-- from a to b, less the best heights of f points from the k-th on -/
noncomputable def lsF (A B : Int) (zs : List Int) : Nat → Nat → Int → Int → I5
 | 0, _, a, b => mk5 a b
 | f + 1, k, a, b => if (BK A B (zs[k * 3]?.getD 0) (zs[k * 3 + 2]?.getD 0) && validB (a - BH A B (zs[k * 3]?.getD 0) (zs[k * 3 + 2]?.getD 0)) (b - BL A B (zs[k * 3]?.getD 0) (zs[k * 3 + 2]?.getD 0))) = true then
   lsF A B zs f (k + 1) (a - BH A B (zs[k * 3]?.getD 0) (zs[k * 3 + 2]?.getD 0)) (b - BL A B (zs[k * 3]?.getD 0) (zs[k * 3 + 2]?.getD 0)) else ivZ
theorem lsF_step {A B : Int} {zs : List Int} {n k : Nat} {a b X E : Int} (hk : k < n) (hX : zs[k * 3]?.getD 0 = X) (hE : zs[k * 3 + 2]?.getD 0 = E) :
  lsF A B zs (n - k) k a b = if (BK A B X E && validB (a - BH A B X E) (b - BL A B X E)) = true then lsF A B zs (n - (k + 1)) (k + 1) (a - BH A B X E) (b - BL A B X E) else ivZ := by
 obtain ⟨f, hf⟩ : ∃ f, n - k = f + 1 := ⟨n - k - 1, by omega⟩
 rw [hf, show n - (k + 1) = f by omega]
 simp only [lsF, hX, hE]
def LsRel (w : World) (A B : Int) (zs : List Int) (n : Nat) (r : I5) (iv : Value) (wr : World) : Prop := ∃ (k : Nat) (a b : Int), iv = .int .i64 k ∧ k ≤ n ∧ validB a b = true ∧ lsF A B zs (n - k) k a b = r ∧
 wr.heap[w.heap.size]? = some (.cells #[.int .i64 A, .int .i64 B] 32 (0, 0)) ∧ wr.heap[w.heap.size + 1]? = some (.cells #[.int .i64 (mkN a 4096), .int .i64 (mkD a 4096), .int .i64 (mkN b 4096), .int .i64 (mkD b 4096)] 29 (0, 0)) ∧
 wr.heap[w.heap.size + 1 + 1]? = some (.cells #[.int .i64 0, .int .i64 0, .int .i64 0, .int .i64 0] 29 (0, 0)) ∧ Below w.heap.size w wr
theorem hpLess_any {A B a0 b0 : Int} {ad : Option Addr} {n c : Nat} {zs : List Int} (w : World) (hp : Px w ad n c zs) (hv0 : validB a0 b0 = true) (hq : ∀ j, j < n → pqB A B (zs[j * 3]?.getD 0) (zs[j * 3 + 1]?.getD 0) (zs[j * 3 + 2]?.getD 0) = true) :
  Calls Tryz.prog 27 #[.agg #[.int .i64 A, .int .i64 B], .agg #[.int .i64 (mkN a0 4096), .int .i64 (mkD a0 4096), .int .i64 (mkN b0 4096), .int .i64 (mkD b0 4096)], .slice ad n c] w fun r w' =>
   r = .returned (.tuple #[.agg #[.int .i64 (lsF A B zs n 0 a0 b0).1, .int .i64 (lsF A B zs n 0 a0 b0).2.1, .int .i64 (lsF A B zs n 0 a0 b0).2.2.1, .int .i64 (lsF A B zs n 0 a0 b0).2.2.2.1], .bool (lsF A B zs n 0 a0 b0).2.2.2.2]) ∧ Below w.heap.size w w' := by
 have hnm := hp.cap
 have hnm2 := hp.max
 unfold maxLen at hnm2
 obtain ⟨r1, r2, r3, r4, r5, hr⟩ := i5_open (lsF A B zs n 0 a0 b0)
 rw [hr]
 have HR := Lib.hid hr
 clear hr
 have tok1 := trivial
 have tok2 := trivial
 have tok3 := trivial
 have tok4 := trivial
 have tok5 := trivial
 go_enter Tryz.func27, Tryz.ntmps27
 go_upto_region 1 with fail
 refine chk (fun W => Below w.heap.size w W ∧ W.heap[w.heap.size]? = some (.cells #[.int .i64 A, .int .i64 B] 32 (0, 0)) ∧ W.heap[w.heap.size + 1]? = some (.cells #[.int .i64 (mkN a0 4096), .int .i64 (mkD a0 4096), .int .i64 (mkN b0 4096), .int .i64 (mkD b0 4096)] 29 (0, 0)) ∧ W.heap[w.heap.size + 1 + 1]? = some (.cells #[.int .i64 0, .int .i64 0, .int .i64 0, .int .i64 0] 29 (0, 0))) (by refine ⟨?_, ?_, ?_, ?_⟩ <;> (exact ck)) ?_
 rintro w1 ⟨hB1, qn, qo, qq⟩
 obtain ⟨zu, zv, yl, vv⟩ := bk2 qn
 replace qn := Lib.hid qn
 obtain ⟨zw, zx, zy, ja, ym, vw⟩ := bk4 qo
 replace qo := Lib.hid qo
 obtain ⟨jb, jc, jd, je, yn, vy⟩ := bk4 qq
 replace qq := Lib.hid qq
 go_wp2_with fail
 go_loopw [16] (fun iv wr => LsRel w A B zs n (r1, r2, r3, r4, r5) iv wr) (fun iv _ => (n - intOf iv).toNat)
 case atStart => exact ⟨0, a0, b0, rfl, by omega, hv0, HR.out, qn.out, qo.out, qq.out, hB1⟩
 case round =>
  clear HR hv0
  obtain ⟨k, a, b, rfl, hk, hv, hm, hC, hI, hR, hbw⟩ := hrel
  have hsw := hbw.size
  by_cases hlt : k < n
  ·have hltc : (k : Int) < n := by omega
   obtain ⟨b1, off, rfl, hb1, hcs⟩ := hp.at (by omega)
   have e0 := (hbw.cell (p := ⟨b1, off + k * 3, none⟩) hb1).trans (hcs (k * 3) (by omega))
   have e1 := (hbw.cell (p := ⟨b1, off + k * 3 + 1, none⟩) hb1).trans (hcs (k * 3 + 1) (by omega))
   have e2 := (hbw.cell (p := ⟨b1, off + k * 3 + 2, none⟩) hb1).trans (hcs (k * 3 + 2) (by omega))
   have hpk := hq k hlt
   obtain ⟨X, hX⟩ : ∃ v, zs[k * 3]?.getD 0 = v := ⟨_, rfl⟩
   obtain ⟨Y, hY⟩ : ∃ v, zs[k * 3 + 1]?.getD 0 = v := ⟨_, rfl⟩
   obtain ⟨E, hE⟩ : ∃ v, zs[k * 3 + 2]?.getD 0 = v := ⟨_, rfl⟩
   rw [hX] at e0
   rw [hY] at e1
   rw [hE] at e2
   rw [hX, hY, hE] at hpk
   rw [lsF_step hlt hX hE] at hm
   have T1 := fun W : World => Lib.hid (hpHeight_any W hpk)
   have hkv := @BK_valid A B X E
   unfold hgV at T1
   have HM := Lib.hid hm
   have HV := Lib.hid hv
   clear hX hY hE hm hcs hpk hv
   generalize BL A B X E = lo at *
   generalize BH A B X E = hi at *
   generalize BK A B X E = kk at *
   obtain ⟨i1, hi1⟩ : ∃ v, mkN a 4096 = v := ⟨_, rfl⟩
   obtain ⟨i2, hi2⟩ : ∃ v, mkD a 4096 = v := ⟨_, rfl⟩
   obtain ⟨i3, hi3⟩ : ∃ v, mkN b 4096 = v := ⟨_, rfl⟩
   obtain ⟨i4, hi4⟩ : ∃ v, mkD b 4096 = v := ⟨_, rfl⟩
   rw [hi1, hi2, hi3, hi4] at hI
   have HI := Lib.hid (And.intro hi1 (And.intro hi2 (And.intro hi3 hi4)))
   clear hi1 hi2 hi3 hi4
   go_upto_region 4 with fail
   replace qn := qn.out
   replace qo := qo.out
   replace qq := qq.out
   refine chk (fun W => Below w.heap.size w W ∧ W.heap[w.heap.size]? = some (.cells #[.int .i64 A, .int .i64 B] 32 (0, 0)) ∧ W.heap[w.heap.size + 1]? = some (.cells #[.int .i64 i1, .int .i64 i2, .int .i64 i3, .int .i64 i4] 29 (0, 0)) ∧ W.heap[w.heap.size + 1 + 1]? = some (.cells #[.int .i64 0, .int .i64 0, .int .i64 0, .int .i64 0] 29 (0, 0)) ∧ W.heap[wr.heap.size]? = some (.cells #[.int .i64 X, .int .i64 Y, .int .i64 E] 34 (0, 0))) (by refine ⟨?_, ?_, ?_, ?_, ?_⟩ <;> (exact ck)) ?_
   clear zu zv yl qn
   clear zw zx zy ja ym qo
   clear jb jc jd je yn qq
   clear hB1
   rintro w2 ⟨hB2, qr, qe, qc, qt⟩
   obtain ⟨jf, jg, yo, wc⟩ := bk2 qr
   replace qr := Lib.hid qr
   obtain ⟨xi, xj, xk, xl, jz, yu⟩ := bk4 qe
   replace qe := Lib.hid qe
   obtain ⟨qy, qz, xc, xd, ya, yv⟩ := bk4 qc
   replace qc := Lib.hid qc
   obtain ⟨jh, ji, jj, yp, wd⟩ := bk3 qt
   replace qt := Lib.hid qt
   clear hC hI hR e0 e1 e2
   cases kk
   ·rw [if_neg (by simp)] at T1
    unfold ivZ at T1
    have hz := HM.out
    rw [if_neg (by simp)] at hz
    unfold ivZ at hz
    obtain ⟨rfl, rfl, rfl, rfl, rfl⟩ : 0 = r1 ∧ 0 = r2 ∧ 0 = r3 ∧ 0 = r4 ∧ false = r5 := by simpa using hz
    clear hz HM
    go_upto_region 5 with (first | (have _t := tok3; go_at_call 25; (with_reducible refine ((T1 _).out).mono ?_); rintro e w3 ⟨rfl, hb3⟩; clear tok3 _t; have hz3 := hb3.size; (try simp only [sA, sB, sC, sD] at hz3)))
    have qf := (hb3.block (w.heap.size) (blk_lt' qr.out)).trans qr.out
    clear jf jg yo qr
    obtain ⟨xm, xn, yb, yw⟩ := bk2 qf
    replace qf := Lib.hid qf
    have qg := (hb3.block (w.heap.size + 1) (blk_lt' qe.out)).trans qe.out
    clear xi xj xk xl jz qe
    obtain ⟨xo, xp, xq, xr, yc, yx⟩ := bk4 qg
    replace qg := Lib.hid qg
    have qh := (hb3.block (w.heap.size + 1 + 1) (blk_lt' qc.out)).trans qc.out
    clear qy qz xc xd ya qc
    obtain ⟨xt, xu, xv, xw, yd, yz⟩ := bk4 qh
    replace qh := Lib.hid qh
    have qi := (hb3.block (wr.heap.size) (blk_lt' qt.out)).trans qt.out
    clear jh ji jj yp qt
    obtain ⟨xy, za, zb, ye, va⟩ := bk3 qi
    replace qi := Lib.hid qi
    have hB3 : Below w.heap.size w w3 := below_via hb3 (by assumption) (by go_size)
    replace qf := qf.out
    replace qg := qg.out
    replace qh := qh.out
    replace qi := qi.out
    refine chk (fun W => Below w.heap.size w W ∧ W.heap[w.heap.size + 1 + 1]? = some (.cells #[.int .i64 0, .int .i64 0, .int .i64 0, .int .i64 0] 29 (0, 0))) (by refine ⟨?_, ?_⟩ <;> (exact ck)) ?_
    clear xm xn yb qf
    clear xo xp xq xr yc qg
    clear xt xu xv xw yd qh
    clear xy za zb ye qi
    clear hB3
    rintro w4 ⟨hB4, qd⟩
    obtain ⟨xe, xf, xg, xh, yf, vb⟩ := bk4 qd
    replace qd := Lib.hid qd
    go_upto_region 6 with fail
    iterate 40 (first | (with_reducible show bodyPost _ _ _ _ _ _) | (with_reducible refine wp_ret ?_) | go_values | go_skip | go_guarded | go_step | go_upon | go_back | skip)
    refine bodyPost_ret (v := .tuple #[.agg #[.int .i64 0, .int .i64 0, .int .i64 0, .int .i64 0], .bool false]) (by simp [results, Tryz.results27, go_sem, xe, xf, xg, xh]) rfl ⟨rfl, ?_⟩
    have HO := qd.out
    (exact ck)
   ·rw [if_pos rfl] at T1
    unfold mk5 at T1
    obtain ⟨g1, g2, g3⟩ := iv_read HV.out
    obtain ⟨g4, g5, g6⟩ := iv_read (hkv rfl)
    have T2 := fun W : World => Lib.hid (ivSub_any W g1 g4)
    rw [g2, g3, g5, g6, HI.out.1, HI.out.2.1, HI.out.2.2.1, HI.out.2.2.2] at T2
    simp only [opV, if_pos rfl] at T2
    clear g1 g2 g3 g4 g5 g6 hkv
    generalize mkN lo 4096 = j1 at *
    generalize mkD lo 4096 = j2 at *
    generalize mkN hi 4096 = j3 at *
    generalize mkD hi 4096 = j4 at *
    go_upto_region 5 with (first | (have _t := tok3; go_at_call 25; (with_reducible refine ((T1 _).out).mono ?_); rintro e w3 ⟨rfl, hb3⟩; clear tok3 _t; have hz3 := hb3.size; (try simp only [sA, sB, sC, sD] at hz3)))
    have qf := (hb3.block (w.heap.size) (blk_lt' qr.out)).trans qr.out
    clear jf jg yo qr
    obtain ⟨xm, xn, yb, yw⟩ := bk2 qf
    replace qf := Lib.hid qf
    have qg := (hb3.block (w.heap.size + 1) (blk_lt' qe.out)).trans qe.out
    clear xi xj xk xl jz qe
    obtain ⟨xo, xp, xq, xr, yc, yx⟩ := bk4 qg
    replace qg := Lib.hid qg
    have qh := (hb3.block (w.heap.size + 1 + 1) (blk_lt' qc.out)).trans qc.out
    clear qy qz xc xd ya qc
    obtain ⟨xt, xu, xv, xw, yd, yz⟩ := bk4 qh
    replace qh := Lib.hid qh
    have qi := (hb3.block (wr.heap.size) (blk_lt' qt.out)).trans qt.out
    clear jh ji jj yp qt
    obtain ⟨xy, za, zb, ye, va⟩ := bk3 qi
    replace qi := Lib.hid qi
    have hB3 : Below w.heap.size w w3 := below_via hb3 (by assumption) (by go_size)
    replace qf := qf.out
    replace qg := qg.out
    replace qh := qh.out
    replace qi := qi.out
    refine chk (fun W => Below w.heap.size w W ∧ W.heap[w.heap.size]? = some (.cells #[.int .i64 A, .int .i64 B] 32 (0, 0)) ∧ W.heap[w.heap.size + 1]? = some (.cells #[.int .i64 i1, .int .i64 i2, .int .i64 i3, .int .i64 i4] 29 (0, 0)) ∧ W.heap[w.heap.size + 1 + 1]? = some (.cells #[.int .i64 0, .int .i64 0, .int .i64 0, .int .i64 0] 29 (0, 0)) ∧ W.heap[w3.heap.size]? = some (.cells #[.int .i64 j1, .int .i64 j2, .int .i64 j3, .int .i64 j4] 29 (0, 0))) (by refine ⟨?_, ?_, ?_, ?_, ?_⟩ <;> (exact ck)) ?_
    clear xm xn yb qf
    clear xo xp xq xr yc qg
    clear xt xu xv xw yd qh
    clear xy za zb ye qi
    clear hB3
    rintro w4 ⟨hB4, qu, qv, qd, qw⟩
    obtain ⟨jk, jl, yq, wg⟩ := bk2 qu
    replace qu := Lib.hid qu
    obtain ⟨jm, jn, jo, jp, yr, wi⟩ := bk4 qv
    replace qv := Lib.hid qv
    obtain ⟨xe, xf, xg, xh, yf, vb⟩ := bk4 qd
    replace qd := Lib.hid qd
    obtain ⟨jq, jr, jt, ju, yt, wj⟩ := bk4 qw
    replace qw := Lib.hid qw
    clear T1
    cases hv2 : validB (a - hi) (b - lo)
    ·rw [ivV_no (by simp [hv2])] at T2
     have hz := HM.out
     rw [if_neg (by simp [hv2])] at hz
     unfold ivZ at hz
     obtain ⟨rfl, rfl, rfl, rfl, rfl⟩ : 0 = r1 ∧ 0 = r2 ∧ 0 = r3 ∧ 0 = r4 ∧ false = r5 := by simpa using hz
     clear hz HM hv2
     go_upto_region 8 with (first | (have _t := tok5; go_at_call 50; (with_reducible refine ((T2 _).out).mono ?_); rintro e w5 ⟨rfl, hb5⟩; clear tok5 _t; have hz5 := hb5.size; (try simp only [sA, sB, sC, sD] at hz5)))
     have qj := (hb5.block (w.heap.size) (blk_lt' qu.out)).trans qu.out
     clear jk jl yq qu
     obtain ⟨zc, zd, yg, vc⟩ := bk2 qj
     replace qj := Lib.hid qj
     have qk := (hb5.block (w.heap.size + 1) (blk_lt' qv.out)).trans qv.out
     clear jm jn jo jp yr qv
     obtain ⟨ze, zf, zg, zh, yh, vd⟩ := bk4 qk
     replace qk := Lib.hid qk
     have ql := (hb5.block (w.heap.size + 1 + 1) (blk_lt' qd.out)).trans qd.out
     clear xe xf xg xh yf qd
     obtain ⟨zi, zj, zk, zm, yi, vf⟩ := bk4 ql
     replace ql := Lib.hid ql
     have qm := (hb5.block (w3.heap.size) (blk_lt' qw.out)).trans qw.out
     clear jq jr jt ju yt qw
     obtain ⟨zn, zo, zp, zq, yj, vg⟩ := bk4 qm
     replace qm := Lib.hid qm
     have hB5 : Below w.heap.size w w5 := below_via hb5 (by assumption) (by go_size)
     replace qj := qj.out
     replace qk := qk.out
     replace ql := ql.out
     replace qm := qm.out
     refine chk (fun W => Below w.heap.size w W ∧ W.heap[w.heap.size + 1 + 1]? = some (.cells #[.int .i64 0, .int .i64 0, .int .i64 0, .int .i64 0] 29 (0, 0))) (by refine ⟨?_, ?_⟩ <;> (exact ck)) ?_
     clear zc zd yg qj
     clear ze zf zg zh yh qk
     clear zi zj zk zm yi ql
     clear zn zo zp zq yj qm
     clear hB5
     rintro w6 ⟨hB6, qx⟩
     obtain ⟨jv, jw, jx, jy, vh, vi⟩ := bk4 qx
     replace qx := Lib.hid qx
     go_upto_region 9 with fail
     iterate 40 (first | (with_reducible show bodyPost _ _ _ _ _ _) | (with_reducible refine wp_ret ?_) | go_values | go_skip | go_guarded | go_step | go_upon | go_back | skip)
     refine bodyPost_ret (v := .tuple #[.agg #[.int .i64 0, .int .i64 0, .int .i64 0, .int .i64 0], .bool false]) (by simp [results, Tryz.results27, go_sem, jv, jw, jx, jy]) rfl ⟨rfl, ?_⟩
     have HO := qx.out
     (exact ck)
    ·rw [ivV_yes hv2] at T2
     have hz := HM.out
     rw [if_pos (by simp [hv2])] at hz
     have HZ := Lib.hid hz
     have HV2 := Lib.hid hv2
     clear hz HM hv2
     obtain ⟨m1, hm1⟩ : ∃ v, mkN (a - hi) 4096 = v := ⟨_, rfl⟩
     obtain ⟨m2, hm2⟩ : ∃ v, mkD (a - hi) 4096 = v := ⟨_, rfl⟩
     obtain ⟨m3, hm3⟩ : ∃ v, mkN (b - lo) 4096 = v := ⟨_, rfl⟩
     obtain ⟨m4, hm4⟩ : ∃ v, mkD (b - lo) 4096 = v := ⟨_, rfl⟩
     simp only [hm1, hm2, hm3, hm4] at T2
     have HI2 := Lib.hid (And.intro hm1 (And.intro hm2 (And.intro hm3 hm4)))
     clear hm1 hm2 hm3 hm4
     go_upto_region 8 with (first | (have _t := tok5; go_at_call 50; (with_reducible refine ((T2 _).out).mono ?_); rintro e w5 ⟨rfl, hb5⟩; clear tok5 _t; have hz5 := hb5.size; (try simp only [sA, sB, sC, sD] at hz5)))
     have qj := (hb5.block (w.heap.size) (blk_lt' qu.out)).trans qu.out
     clear jk jl yq qu
     obtain ⟨zc, zd, yg, vc⟩ := bk2 qj
     replace qj := Lib.hid qj
     have qk := (hb5.block (w.heap.size + 1) (blk_lt' qv.out)).trans qv.out
     clear jm jn jo jp yr qv
     obtain ⟨ze, zf, zg, zh, yh, vd⟩ := bk4 qk
     replace qk := Lib.hid qk
     have ql := (hb5.block (w.heap.size + 1 + 1) (blk_lt' qd.out)).trans qd.out
     clear xe xf xg xh yf qd
     obtain ⟨zi, zj, zk, zm, yi, vf⟩ := bk4 ql
     replace ql := Lib.hid ql
     have qm := (hb5.block (w3.heap.size) (blk_lt' qw.out)).trans qw.out
     clear jq jr jt ju yt qw
     obtain ⟨zn, zo, zp, zq, yj, vg⟩ := bk4 qm
     replace qm := Lib.hid qm
     have hB5 : Below w.heap.size w w5 := below_via hb5 (by assumption) (by go_size)
     replace qj := qj.out
     replace qk := qk.out
     replace ql := ql.out
     replace qm := qm.out
     refine chk (fun W => Below w.heap.size w W ∧ W.heap[w.heap.size]? = some (.cells #[.int .i64 A, .int .i64 B] 32 (0, 0)) ∧ W.heap[w.heap.size + 1]? = some (.cells #[.int .i64 i1, .int .i64 i2, .int .i64 i3, .int .i64 i4] 29 (0, 0)) ∧ W.heap[w.heap.size + 1 + 1]? = some (.cells #[.int .i64 0, .int .i64 0, .int .i64 0, .int .i64 0] 29 (0, 0)) ∧ W.heap[w5.heap.size]? = some (.cells #[.int .i64 m1, .int .i64 m2, .int .i64 m3, .int .i64 m4] 29 (0, 0))) (by refine ⟨?_, ?_, ?_, ?_, ?_⟩ <;> (exact ck)) ?_
     clear zc zd yg qj
     clear ze zf zg zh yh qk
     clear zi zj zk zm yi ql
     clear zn zo zp zq yj qm
     clear hB5
     rintro w6 ⟨hB6, zr, zt, qx, yk⟩
     obtain ⟨vj, vk, wk, wl⟩ := bk2 zr
     replace zr := Lib.hid zr
     obtain ⟨vm, vn, vo, vp, wm, wn⟩ := bk4 zt
     replace zt := Lib.hid zt
     obtain ⟨jv, jw, jx, jy, vh, vi⟩ := bk4 qx
     replace qx := Lib.hid qx
     obtain ⟨vq, vr, vt, vu, wq, ws⟩ := bk4 yk
     replace yk := Lib.hid yk
     clear T2
     go_wp2_with fail
     go_roundw
     have q1 := zr.out
     have q2 := zt.out
     have q3 := qx.out
     case rel => exact ⟨k + 1, a - hi, b - lo, by go_num, by omega, HV2.out, HZ.out, ck, by rw [HI2.out.1, HI2.out.2.1, HI2.out.2.2.1, HI2.out.2.2.2]; (exact ck), ck, ck⟩
     case measure => simp [intOf]; omega
  ·obtain rfl : k = n := by omega
   rw [Nat.sub_self] at hm
   simp only [lsF, mk5] at hm
   obtain ⟨n1, n2, n3, n4, rfl⟩ : mkN a 4096 = r1 ∧ mkD a 4096 = r2 ∧ mkN b 4096 = r3 ∧ mkD b 4096 = r4 ∧ true = r5 := by simpa using hm
   rw [n1, n2, n3, n4] at hI
   clear hm hv n1 n2 n3 n4
   go_upto_region 12 with fail
   replace qn := qn.out
   replace qo := qo.out
   replace qq := qq.out
   refine chk (fun W => Below w.heap.size w W ∧ W.heap[w.heap.size + 1]? = some (.cells #[.int .i64 r1, .int .i64 r2, .int .i64 r3, .int .i64 r4] 29 (0, 0)) ∧ W.heap[w.heap.size + 1 + 1]? = some (.cells #[.int .i64 0, .int .i64 0, .int .i64 0, .int .i64 0] 29 (0, 0))) (by refine ⟨?_, ?_, ?_⟩ <;> (exact ck)) ?_
   clear zu zv yl qn
   clear zw zx zy ja ym qo
   clear jb jc jd je yn qq
   clear hB1
   rintro w2 ⟨hB2, qe, qc⟩
   obtain ⟨xi, xj, xk, xl, jz, yu⟩ := bk4 qe
   replace qe := Lib.hid qe
   obtain ⟨qy, qz, xc, xd, ya, yv⟩ := bk4 qc
   replace qc := Lib.hid qc
   iterate 40 (first | (with_reducible show bodyPost _ _ _ _ _ _) | (with_reducible refine wp_ret ?_) | go_values | go_skip | go_guarded | go_step | go_upon | go_back | skip)
   refine bodyPost_ret (v := .tuple #[.agg #[.int .i64 r1, .int .i64 r2, .int .i64 r3, .int .i64 r4], .bool true]) (by simp [results, Tryz.results27, go_sem, qy, qz, xc, xd]) rfl ⟨rfl, ?_⟩
   have HO := qc.out
   (exact ck)
end
end Go.Proofs.YtnkmgpmehkholaaGreat
