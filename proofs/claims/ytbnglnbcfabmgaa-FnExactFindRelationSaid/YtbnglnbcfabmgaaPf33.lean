/- Lemmas and contracts of functions. No condition. -/
import Derived.Test.YtbnglnbcfabmgaaPf28
import Derived.Test.YtbnglnbcfabmgaaPf32
namespace Go.Proofs.Ytbnglnbcfabmgaa
open Go.RowKit
set_option linter.unusedVariables false
set_option maxHeartbeats 16000000
set_option maxRecDepth 20000
set_option linter.unusedSimpArgs false
attribute [local go_sem] openAt openUpon
def CoRel (w w4 : World) (A B : Int) (zs ns : List Int) (n : Nat) (iv : Value) (wr : World) : Prop := ∃ (k : Nat) (a b c : Int), iv = .int .i64 k ∧ k ≤ n ∧ cmS A zs ns k = (a, b, c, true) ∧
 wr.heap[w.heap.size]? = some (.cells #[.int .i64 A, .int .i64 B] 29 (0, 0)) ∧ wr.heap[w.heap.size + 1]? = some (.cells #[.int .i64 0, .int .i64 0, .int .i64 0] 45 (0, 0)) ∧
 wr.heap[w4.heap.size]? = some (.cells #[.int .i64 a, .int .i64 b, .int .i64 c] 45 (0, 0)) ∧ Below w.heap.size w wr
theorem combine_any (A B : Int) (a0 b0 : Option Addr) (m c0 d0 : Nat) (zs ns : List Int) (w : World) (hp : Px w a0 m c0 zs) (hs : Sx w b0 m d0 ns) (hcv : cvB A B = true) (hA : -1000 ≤ A ∧ A ≤ 1000) (hB : -10000 ≤ B ∧ B ≤ 10000) (hn4 : 1 ≤ m ∧ m ≤ 4)
  (hpt : ∀ j, j < m → ptB A B (zs[j * 3]?.getD 0) (zs[j * 3 + 1]?.getD 0) (zs[j * 3 + 2]?.getD 0) = true) (hfit : ∀ j, j < m → -12 ≤ ns[j]?.getD 0 ∧ ns[j]?.getD 0 ≤ 12) :
  Calls Try.prog 24 #[.agg #[.int .i64 A, .int .i64 B], .slice a0 m c0, .slice b0 m d0] w fun r w' =>
   r = .returned (.tuple #[.agg #[.int .i64 (cmS A zs ns m).1, .int .i64 (cmS A zs ns m).2.1, .int .i64 (cmS A zs ns m).2.2.1], .bool (cmS A zs ns m).2.2.2]) ∧ Below w.heap.size w w' := by
 ·have hnm := hp.cap
  have hnm2 := hp.max
  unfold maxLen at hnm2
  obtain ⟨r1, r2, r3, r4, hr⟩ := pt4 (cmS A zs ns m)
  rw [hr]
  have HR := Lib.hid hr
  clear hr
  have tok1 := trivial
  have tok2 := trivial
  have tok3 := trivial
  have tok4 := trivial
  have tok5 := trivial
  have tok6 := trivial
  go_enter Try.func24, Try.ntmps24
  go_upto_region 1 with fail
  refine chk (fun W => Below w.heap.size w W ∧ W.heap[w.heap.size]? = some (.cells #[.int .i64 A, .int .i64 B] 29 (0, 0)) ∧ W.heap[w.heap.size + 1]? = some (.cells #[.int .i64 0, .int .i64 0, .int .i64 0] 45 (0, 0))) (by refine ⟨?_, ?_, ?_⟩ <;> (exact ck)) ?_
  rintro w2 ⟨hB2, qn, qo⟩
  obtain ⟨zp, zq, ju, vo⟩ := bk2 qn
  replace qn := Lib.hid qn
  obtain ⟨zr, zt, zu, jv, vp⟩ := bk3 qo
  replace qo := Lib.hid qo
  go_wp2_with fail
  go_loopw [18] (fun iv wr => CoRel w w2 A B zs ns m iv wr) (fun iv _ => (m - intOf iv).toNat)
  case atStart =>
   have q1 := qn.out
   have q2 := qo.out
   exact ⟨0, 0, 0, 0, rfl, by omega, rfl, ck, ck, ck, ck⟩
  case round =>
   obtain ⟨k, a, b, c, rfl, hk, hm, hC, hO, hS, hbw⟩ := hrel
   have HM := Lib.hid hm
   clear hm
   by_cases hlt : k < m
   ·have hltc : (k : Int) < m := by omega
    obtain ⟨b1, off, rfl, hb1, hcs⟩ := hp.at (by omega)
    obtain ⟨b2, off2, rfl, hb2, hcs2⟩ := hs.at (by omega)
    have d0 := hcs2 k hlt
    have e0 := (hbw.cell (p := ⟨b1, off + k * 3, none⟩) hb1).trans (hcs (k * 3) (by omega))
    have e1 := (hbw.cell (p := ⟨b1, off + k * 3 + 1, none⟩) hb1).trans (hcs (k * 3 + 1) (by omega))
    have e2 := (hbw.cell (p := ⟨b1, off + k * 3 + 2, none⟩) hb1).trans (hcs (k * 3 + 2) (by omega))
    have hpk := hpt k hlt
    have hnk := hfit k hlt
    obtain ⟨X, hX⟩ : ∃ v, zs[k * 3]?.getD 0 = v := ⟨_, rfl⟩
    obtain ⟨Y, hY⟩ : ∃ v, zs[k * 3 + 1]?.getD 0 = v := ⟨_, rfl⟩
    obtain ⟨E, hE⟩ : ∃ v, zs[k * 3 + 2]?.getD 0 = v := ⟨_, rfl⟩
    obtain ⟨N, hN⟩ : ∃ v, ns[k]?.getD 0 = v := ⟨_, rfl⟩
    rw [hX] at e0
    rw [hY] at e1
    rw [hE] at e2
    rw [hN] at d0 hnk
    rw [hX, hY, hE] at hpk
    have TT := fun W : World => Lib.hid (MultiplePoint_any A B X Y E N W hcv hA hB hpk hnk)
    have hok2 := ptN_ok (n := N) hA hB hpk
    have hok1 := cmS_ok (ns := ns) hA hB hpt k (by omega)
    rw [HM.out] at hok1
    obtain ⟨q1, q2, q3, q4, hq⟩ := pt4 (ptN A X Y E N)
    have hst := cmS_step HM.out hX hY hE hN hq
    have HST := Lib.hid hst
    have D0 := Lib.hid d0
    clear d0
    rw [hq] at TT hok2
    have HOK1 := Lib.hid hok1
    have HOK2 := Lib.hid hok2
    have hsw := hbw.size
    clear hst hX hY hE hN hq hok1 hok2 hcs hcs2 hpk hnk
    go_upto_region 5 with fail
    replace qn := qn.out
    replace qo := qo.out
    refine chk (fun W => Below w.heap.size w W ∧ W.heap[w.heap.size]? = some (.cells #[.int .i64 A, .int .i64 B] 29 (0, 0)) ∧ W.heap[w.heap.size + 1]? = some (.cells #[.int .i64 0, .int .i64 0, .int .i64 0] 45 (0, 0)) ∧ W.heap[w2.heap.size]? = some (.cells #[.int .i64 a, .int .i64 b, .int .i64 c] 45 (0, 0)) ∧ W.heap[wr.heap.size]? = some (.cells #[.int .i64 X, .int .i64 Y, .int .i64 E] 45 (0, 0))) (by refine ⟨?_, ?_, ?_, ?_, ?_⟩ <;> (exact ck)) ?_
    clear zp zq ju qn
    clear zr zt zu jv qo
    clear hB2
    rintro w3 ⟨hB3, qp, qq, qr, qt⟩
    obtain ⟨zv, zw, jw, vq⟩ := bk2 qp
    replace qp := Lib.hid qp
    obtain ⟨zx, zy, zz, jx, vr⟩ := bk3 qq
    replace qq := Lib.hid qq
    obtain ⟨ja, jb, jc, jy, vt⟩ := bk3 qr
    replace qr := Lib.hid qr
    obtain ⟨jd, je, jf, jz, vu⟩ := bk3 qt
    replace qt := Lib.hid qt
    have d0 := (hB3.cell (p := ⟨b2, off2 + k, none⟩) hb2).trans D0.out
    have hb23 : b2 < w3.heap.size := by have := hB3.size; omega
    clear e0 e1 e2 hC hO hS
    have HAB := Lib.hid (And.intro hA hB)
    have HPS := Lib.hid (And.intro hp hs)
    have HFT := Lib.hid (And.intro hpt hfit)
    clear hA hB hp hs hpt hfit hnm hnm2
    go_region_held3 (fun w' => w'.cell? ⟨w.heap.size, 0, none⟩ = some (.int .i64 A) ∧ w'.cell? ⟨w.heap.size, 1, none⟩ = some (.int .i64 B) ∧ w'.cell? ⟨wr.heap.size, 0, none⟩ = some (.int .i64 X) ∧ w'.cell? ⟨wr.heap.size, 1, none⟩ = some (.int .i64 Y) ∧ w'.cell? ⟨wr.heap.size, 2, none⟩ = some (.int .i64 E) ∧ w'.cell? ⟨b2, off2 + k, none⟩ = some (.int .i64 N)) (first | (refine ⟨zfar3 (by assumption) ?_, zfar3 (by assumption) ?_, zfar3 (by assumption) ?_, zfar3 (by assumption) ?_, zfar3 (by assumption) ?_, zfar3 (by assumption) ?_⟩ <;> (focus (omega; done))) | (go_keep; done)) (first | (go_at_call 43; (with_reducible refine ((TT _).out).mono ?_); have HH := ‹World.cell? _ ⟨w.heap.size, 0, none⟩ = some (.int .i64 A) ∧ _›; rintro e w4 ⟨rfl, hb4⟩; have z4 := hb4.size; (try simp only [sA, sB, sC, sD] at z4); (try (refine zcellAtQ hb4 (w3.heap.size) ?_ ?_; (focus (go_size; done)); intro kq zf zl; have z0 := kq 0; have z1 := kq 1; have z2 := kq 2; clear kq; (try simp [go_sem, *] at z0 z1 z2 zf))); have q0_ : w4.cell? ⟨w.heap.size, 0, none⟩ = some (.int .i64 A) := (hb4.cell (p := ⟨w.heap.size, 0, none⟩) (by go_size)).trans HH.1; have q1_ : w4.cell? ⟨w.heap.size, 1, none⟩ = some (.int .i64 B) := (hb4.cell (p := ⟨w.heap.size, 1, none⟩) (by go_size)).trans HH.2.1; have q2_ : w4.cell? ⟨wr.heap.size, 0, none⟩ = some (.int .i64 X) := (hb4.cell (p := ⟨wr.heap.size, 0, none⟩) (by go_size)).trans HH.2.2.1; have q3_ : w4.cell? ⟨wr.heap.size, 1, none⟩ = some (.int .i64 Y) := (hb4.cell (p := ⟨wr.heap.size, 1, none⟩) (by go_size)).trans HH.2.2.2.1; have q4_ : w4.cell? ⟨wr.heap.size, 2, none⟩ = some (.int .i64 E) := (hb4.cell (p := ⟨wr.heap.size, 2, none⟩) (by go_size)).trans HH.2.2.2.2.1; have q5_ : w4.cell? ⟨b2, off2 + k, none⟩ = some (.int .i64 N) := (hb4.cell (p := ⟨b2, off2 + k, none⟩) (by go_size)).trans HH.2.2.2.2.2))
    ·have _t := trivial
     (try have HZ : w4.heap[w3.heap.size]? = some (.cells #[.int .i64 0, .int .i64 0, .int .i64 0] 45 (0, 0)) := (hb4.block w3.heap.size (by simp)).trans (heap_alloc_new w3 _))
     have HY := heap_alloc_new w4 (.cells #[.int .i64 q1, .int .i64 q2, .int .i64 q3] 45 (0, 0))
     have hb40 : Below w3.heap.size w3 w4 := by first | exact below_via hb4 ((Below.refl _ w3).drew) (Nat.le_refl _) | exact below_via hb4 (((Below.refl _ w3).alloc (Nat.le_refl _) _).drew) (by simp)
     clear hb4 q0_ q1_ q2_ q3_ q4_ q5_
     have hb4 := hb40
     clear hb40
     have qa := (hb4.block (w.heap.size) (blk_lt' qp.out)).trans qp.out
     clear zv zw jw qp
     obtain ⟨xa, xb, jg, ym⟩ := bk2 qa
     replace qa := Lib.hid qa
     have qb := (hb4.block (w.heap.size + 1) (blk_lt' qq.out)).trans qq.out
     clear zx zy zz jx qq
     obtain ⟨xc, xd, xe, jh, yn⟩ := bk3 qb
     replace qb := Lib.hid qb
     have qc := (hb4.block (w2.heap.size) (blk_lt' qr.out)).trans qr.out
     clear ja jb jc jy qr
     obtain ⟨xf, xg, xh, ji, yo⟩ := bk3 qc
     replace qc := Lib.hid qc
     have qd := (hb4.block (wr.heap.size) (blk_lt' qt.out)).trans qt.out
     clear jd je jf jz qt
     obtain ⟨xi, xj, xm, jj, yp⟩ := bk3 qd
     replace qd := Lib.hid qd
     have hB4 : Below w.heap.size w w4 := below_via hb4 (by assumption) (by go_size)
     go_upto_region 6 with fail
     replace qa := qa.out
     replace qb := qb.out
     replace qc := qc.out
     replace qd := qd.out
     refine chk (fun W => Below w.heap.size w W ∧ W.heap[w.heap.size]? = some (.cells #[.int .i64 A, .int .i64 B] 29 (0, 0)) ∧ W.heap[w.heap.size + 1]? = some (.cells #[.int .i64 0, .int .i64 0, .int .i64 0] 45 (0, 0)) ∧ W.heap[w2.heap.size]? = some (.cells #[.int .i64 a, .int .i64 b, .int .i64 c] 45 (0, 0)) ∧ W.heap[w4.heap.size]? = some (.cells #[.int .i64 q1, .int .i64 q2, .int .i64 q3] 45 (0, 0))) (by refine ⟨?_, ?_, ?_, ?_, ?_⟩ <;> (exact ck)) ?_
     clear xa xb jg qa
     clear xc xd xe jh qb
     clear xf xg xh ji qc
     clear xi xj xm jj qd
     clear hB4
     rintro w5 ⟨hB5, qe, qf, qg, qh⟩
     obtain ⟨xn, xo, jk, yr⟩ := bk2 qe
     replace qe := Lib.hid qe
     obtain ⟨xp, xr, xt, jl, yt⟩ := bk3 qf
     replace qf := Lib.hid qf
     obtain ⟨xu, xw, xx, jm, yu⟩ := bk3 qg
     replace qg := Lib.hid qg
     obtain ⟨xy, xz, za, jn, yv⟩ := bk3 qh
     replace qh := Lib.hid qh
     clear d0 hb23
     have hA := HAB.out.1
     have hB := HAB.out.2
     obtain ⟨s1, s2, s3, s4, hs4⟩ := pt4 (ptS A a b c q1 q2 q3)
     have hpa : ptB A B a b c = true := by rcases HOK1.out with ⟨_, h⟩ | h; exact h; simp at h
     have hpq : ptB A B q1 q2 q3 = true := by
      rcases HOK2.out with ⟨_, h⟩ | h
      ·exact h
      ·simp only [Prod.mk.injEq] at h
       obtain ⟨rfl, rfl, rfl, _⟩ := h
       exact ptB_zero A B
     have TA := fun W : World => addPoints_any A B a b c q1 q2 q3 W hA hB hpa hpq
     simp only [hs4] at TA
     have HS4 := Lib.hid hs4
     clear hs4 hpa hpq
     go_upto_region 7 with (first | (have _t := tok6; go_at_call 44; (with_reducible refine ((TA _)).mono ?_); rintro e w6 ⟨rfl, hb6⟩; clear tok6 _t; have hz6 := hb6.size; (try simp only [sA, sB, sC, sD] at hz6)))
     have qi := (hb6.block (w.heap.size) (blk_lt' qe.out)).trans qe.out
     clear xn xo jk qe
     obtain ⟨zb, zc, jo, yw⟩ := bk2 qi
     replace qi := Lib.hid qi
     have qj := (hb6.block (w.heap.size + 1) (blk_lt' qf.out)).trans qf.out
     clear xp xr xt jl qf
     obtain ⟨zd, ze, zg, jp, yx⟩ := bk3 qj
     replace qj := Lib.hid qj
     have qk := (hb6.block (w2.heap.size) (blk_lt' qg.out)).trans qg.out
     clear xu xw xx jm qg
     obtain ⟨zh, zi, zj, jq, yz⟩ := bk3 qk
     replace qk := Lib.hid qk
     have ql := (hb6.block (w4.heap.size) (blk_lt' qh.out)).trans qh.out
     clear xy xz za jn qh
     obtain ⟨zk, zm, zn, jr, va⟩ := bk3 ql
     replace ql := Lib.hid ql
     have hB6 : Below w.heap.size w w6 := below_via hb6 (by assumption) (by go_size)
     replace qi := qi.out
     replace qj := qj.out
     replace qk := qk.out
     replace ql := ql.out
     refine chk (fun W => Below w.heap.size w W ∧ W.heap[w.heap.size]? = some (.cells #[.int .i64 A, .int .i64 B] 29 (0, 0)) ∧ W.heap[w.heap.size + 1]? = some (.cells #[.int .i64 0, .int .i64 0, .int .i64 0] 45 (0, 0)) ∧ W.heap[w2.heap.size]? = some (.cells #[.int .i64 a, .int .i64 b, .int .i64 c] 45 (0, 0)) ∧ W.heap[w6.heap.size]? = some (.cells #[.int .i64 s1, .int .i64 s2, .int .i64 s3] 45 (0, 0))) (by refine ⟨?_, ?_, ?_, ?_, ?_⟩ <;> (exact ck)) ?_
     clear zb zc jo qi
     clear zd ze zg jp qj
     clear zh zi zj jq qk
     clear zk zm zn jr ql
     clear hB6
     rintro w7 ⟨hB7, qu, qm, qv, qz⟩
     obtain ⟨ya, yb, vb, vc⟩ := bk2 qu
     replace qu := Lib.hid qu
     obtain ⟨qw, qx, qy, vd, vf⟩ := bk3 qm
     replace qm := Lib.hid qm
     obtain ⟨yc, yd, ye, vg, vh⟩ := bk3 qv
     replace qv := Lib.hid qv
     obtain ⟨yf, yg, yh, vi, vj⟩ := bk3 qz
     replace qz := Lib.hid qz
     by_cases hq4 : q4 = true ∧ s4 = true
     ·obtain ⟨rfl, rfl⟩ := hq4
      have hz := HST.out
      rw [if_pos rfl, HS4.out] at hz
      have HZ2 := Lib.hid hz
      clear hz
      go_wp2_with fail
      go_roundw
      have q1 := qu.out
      have q2 := qm.out
      have q3 := qv.out
      case rel => first | exact ⟨k + 1, s1, s2, s3, by go_num, by omega, HZ2.out, ck, ck, ck, ck⟩ | ((repeat apply Exists.intro); exact ⟨⟨k + 1, s1, s2, s3, by go_num, by omega, HZ2.out, ck, ck, ck, ck⟩, rfl⟩)
      case measure => simp [intOf]; omega
     ·have hR : cmS A zs ns m = (0, 0, 0, false) := by
       have hz := HST.out
       cases q4
       ·rw [if_neg (by simp)] at hz
        exact cmS_out hz hlt
       ·rw [if_pos rfl, HS4.out] at hz
        cases s4
        ·have hok := cmS_ok (ns := ns) hA hB HFT.out.1 (k + 1) (by omega)
         rw [hz] at hok
         have h0 : (s1, s2, s3, false) = ((0, 0, 0, false) : P4) := by
          rcases hok with ⟨h, _⟩ | h
          ·cases h
          ·exact h
         rw [h0] at hz
         exact cmS_out hz hlt
        ·exact absurd ⟨rfl, rfl⟩ hq4
      rw [HR.out] at hR
      obtain ⟨rfl, rfl, rfl, rfl⟩ : r1 = 0 ∧ r2 = 0 ∧ r3 = 0 ∧ r4 = false := by simpa using hR
      have hq5 : (!q4 || !s4) = true := by cases q4 <;> cases s4 <;> simp at hq4 ⊢
      cases q4
      ·go_upto_region 8 with fail
       iterate 40 (first | (with_reducible show bodyPost _ _ _ _ _ _) | (with_reducible refine wp_ret ?_) | go_values | go_skip | go_guarded | go_step | go_upon | go_back | skip)
       refine bodyPost_ret (v := .tuple #[.agg #[.int .i64 0, .int .i64 0, .int .i64 0], .bool false]) (by simp [results, Try.results24, go_sem, qw, qx, qy]) rfl ⟨rfl, ?_⟩
       have HO := qm.out
       (exact ck)
      ·cases s4
       ·go_upto_region 8 with fail
        iterate 40 (first | (with_reducible show bodyPost _ _ _ _ _ _) | (with_reducible refine wp_ret ?_) | go_values | go_skip | go_guarded | go_step | go_upon | go_back | skip)
        refine bodyPost_ret (v := .tuple #[.agg #[.int .i64 0, .int .i64 0, .int .i64 0], .bool false]) (by simp [results, Try.results24, go_sem, qw, qx, qy]) rfl ⟨rfl, ?_⟩
        have HO := qm.out
        (exact ck)
       ·simp at hq5
    ·have _t := trivial
     (try have HZ : w4.heap[w3.heap.size]? = some (.cells #[.int .i64 0, .int .i64 0, .int .i64 0] 45 (0, 0)) := (hb4.block w3.heap.size (by simp)).trans (heap_alloc_new w3 _))
     have HY := heap_alloc_new w4 (.cells #[.int .i64 q1, .int .i64 q2, .int .i64 q3] 45 (0, 0))
     have hb40 : Below w3.heap.size w3 w4 := by first | exact below_via hb4 ((Below.refl _ w3).drew) (Nat.le_refl _) | exact below_via hb4 (((Below.refl _ w3).alloc (Nat.le_refl _) _).drew) (by simp)
     clear hb4 q0_ q1_ q2_ q3_ q4_ q5_
     have hb4 := hb40
     clear hb40
     have qa := (hb4.block (w.heap.size) (blk_lt' qp.out)).trans qp.out
     clear zv zw jw qp
     obtain ⟨xa, xb, jg, ym⟩ := bk2 qa
     replace qa := Lib.hid qa
     have qb := (hb4.block (w.heap.size + 1) (blk_lt' qq.out)).trans qq.out
     clear zx zy zz jx qq
     obtain ⟨xc, xd, xe, jh, yn⟩ := bk3 qb
     replace qb := Lib.hid qb
     have qc := (hb4.block (w2.heap.size) (blk_lt' qr.out)).trans qr.out
     clear ja jb jc jy qr
     obtain ⟨xf, xg, xh, ji, yo⟩ := bk3 qc
     replace qc := Lib.hid qc
     have qd := (hb4.block (wr.heap.size) (blk_lt' qt.out)).trans qt.out
     clear jd je jf jz qt
     obtain ⟨xi, xj, xm, jj, yp⟩ := bk3 qd
     replace qd := Lib.hid qd
     have hB4 : Below w.heap.size w w4 := below_via hb4 (by assumption) (by go_size)
     go_upto_region 6 with fail
     replace qa := qa.out
     replace qb := qb.out
     replace qc := qc.out
     replace qd := qd.out
     refine chk (fun W => Below w.heap.size w W ∧ W.heap[w.heap.size]? = some (.cells #[.int .i64 A, .int .i64 B] 29 (0, 0)) ∧ W.heap[w.heap.size + 1]? = some (.cells #[.int .i64 0, .int .i64 0, .int .i64 0] 45 (0, 0)) ∧ W.heap[w2.heap.size]? = some (.cells #[.int .i64 a, .int .i64 b, .int .i64 c] 45 (0, 0)) ∧ W.heap[w3.heap.size]? = some (.cells #[.int .i64 q1, .int .i64 q2, .int .i64 q3] 45 (0, 0))) (by refine ⟨?_, ?_, ?_, ?_, ?_⟩ <;> (exact ck)) ?_
     clear xa xb jg qa
     clear xc xd xe jh qb
     clear xf xg xh ji qc
     clear xi xj xm jj qd
     clear hB4
     rintro w5 ⟨hB5, qe, qf, qg, qh⟩
     obtain ⟨xn, xo, jk, yr⟩ := bk2 qe
     replace qe := Lib.hid qe
     obtain ⟨xp, xr, xt, jl, yt⟩ := bk3 qf
     replace qf := Lib.hid qf
     obtain ⟨xu, xw, xx, jm, yu⟩ := bk3 qg
     replace qg := Lib.hid qg
     obtain ⟨xy, xz, za, jn, yv⟩ := bk3 qh
     replace qh := Lib.hid qh
     clear d0 hb23
     have hA := HAB.out.1
     have hB := HAB.out.2
     obtain ⟨s1, s2, s3, s4, hs4⟩ := pt4 (ptS A a b c q1 q2 q3)
     have hpa : ptB A B a b c = true := by rcases HOK1.out with ⟨_, h⟩ | h; exact h; simp at h
     have hpq : ptB A B q1 q2 q3 = true := by
      rcases HOK2.out with ⟨_, h⟩ | h
      ·exact h
      ·simp only [Prod.mk.injEq] at h
       obtain ⟨rfl, rfl, rfl, _⟩ := h
       exact ptB_zero A B
     have TA := fun W : World => addPoints_any A B a b c q1 q2 q3 W hA hB hpa hpq
     simp only [hs4] at TA
     have HS4 := Lib.hid hs4
     clear hs4 hpa hpq
     go_upto_region 7 with (first | (have _t := tok6; go_at_call 44; (with_reducible refine ((TA _)).mono ?_); rintro e w6 ⟨rfl, hb6⟩; clear tok6 _t; have hz6 := hb6.size; (try simp only [sA, sB, sC, sD] at hz6)))
     have qi := (hb6.block (w.heap.size) (blk_lt' qe.out)).trans qe.out
     clear xn xo jk qe
     obtain ⟨zb, zc, jo, yw⟩ := bk2 qi
     replace qi := Lib.hid qi
     have qj := (hb6.block (w.heap.size + 1) (blk_lt' qf.out)).trans qf.out
     clear xp xr xt jl qf
     obtain ⟨zd, ze, zg, jp, yx⟩ := bk3 qj
     replace qj := Lib.hid qj
     have qk := (hb6.block (w2.heap.size) (blk_lt' qg.out)).trans qg.out
     clear xu xw xx jm qg
     obtain ⟨zh, zi, zj, jq, yz⟩ := bk3 qk
     replace qk := Lib.hid qk
     have ql := (hb6.block (w3.heap.size) (blk_lt' qh.out)).trans qh.out
     clear xy xz za jn qh
     obtain ⟨zk, zm, zn, jr, va⟩ := bk3 ql
     replace ql := Lib.hid ql
     have hB6 : Below w.heap.size w w6 := below_via hb6 (by assumption) (by go_size)
     replace qi := qi.out
     replace qj := qj.out
     replace qk := qk.out
     replace ql := ql.out
     refine chk (fun W => Below w.heap.size w W ∧ W.heap[w.heap.size]? = some (.cells #[.int .i64 A, .int .i64 B] 29 (0, 0)) ∧ W.heap[w.heap.size + 1]? = some (.cells #[.int .i64 0, .int .i64 0, .int .i64 0] 45 (0, 0)) ∧ W.heap[w2.heap.size]? = some (.cells #[.int .i64 a, .int .i64 b, .int .i64 c] 45 (0, 0)) ∧ W.heap[w6.heap.size]? = some (.cells #[.int .i64 s1, .int .i64 s2, .int .i64 s3] 45 (0, 0))) (by refine ⟨?_, ?_, ?_, ?_, ?_⟩ <;> (exact ck)) ?_
     clear zb zc jo qi
     clear zd ze zg jp qj
     clear zh zi zj jq qk
     clear zk zm zn jr ql
     clear hB6
     rintro w7 ⟨hB7, qu, qm, qv, qz⟩
     obtain ⟨ya, yb, vb, vc⟩ := bk2 qu
     replace qu := Lib.hid qu
     obtain ⟨qw, qx, qy, vd, vf⟩ := bk3 qm
     replace qm := Lib.hid qm
     obtain ⟨yc, yd, ye, vg, vh⟩ := bk3 qv
     replace qv := Lib.hid qv
     obtain ⟨yf, yg, yh, vi, vj⟩ := bk3 qz
     replace qz := Lib.hid qz
     by_cases hq4 : q4 = true ∧ s4 = true
     ·obtain ⟨rfl, rfl⟩ := hq4
      have hz := HST.out
      rw [if_pos rfl, HS4.out] at hz
      have HZ2 := Lib.hid hz
      clear hz
      go_wp2_with fail
      go_roundw
      have q1 := qu.out
      have q2 := qm.out
      have q3 := qv.out
      case rel => first | exact ⟨k + 1, s1, s2, s3, by go_num, by omega, HZ2.out, ck, ck, ck, ck⟩ | ((repeat apply Exists.intro); exact ⟨⟨k + 1, s1, s2, s3, by go_num, by omega, HZ2.out, ck, ck, ck, ck⟩, rfl⟩)
      case measure => simp [intOf]; omega
     ·have hR : cmS A zs ns m = (0, 0, 0, false) := by
       have hz := HST.out
       cases q4
       ·rw [if_neg (by simp)] at hz
        exact cmS_out hz hlt
       ·rw [if_pos rfl, HS4.out] at hz
        cases s4
        ·have hok := cmS_ok (ns := ns) hA hB HFT.out.1 (k + 1) (by omega)
         rw [hz] at hok
         have h0 : (s1, s2, s3, false) = ((0, 0, 0, false) : P4) := by
          rcases hok with ⟨h, _⟩ | h
          ·cases h
          ·exact h
         rw [h0] at hz
         exact cmS_out hz hlt
        ·exact absurd ⟨rfl, rfl⟩ hq4
      rw [HR.out] at hR
      obtain ⟨rfl, rfl, rfl, rfl⟩ : r1 = 0 ∧ r2 = 0 ∧ r3 = 0 ∧ r4 = false := by simpa using hR
      have hq5 : (!q4 || !s4) = true := by cases q4 <;> cases s4 <;> simp at hq4 ⊢
      cases q4
      ·go_upto_region 8 with fail
       iterate 40 (first | (with_reducible show bodyPost _ _ _ _ _ _) | (with_reducible refine wp_ret ?_) | go_values | go_skip | go_guarded | go_step | go_upon | go_back | skip)
       refine bodyPost_ret (v := .tuple #[.agg #[.int .i64 0, .int .i64 0, .int .i64 0], .bool false]) (by simp [results, Try.results24, go_sem, qw, qx, qy]) rfl ⟨rfl, ?_⟩
       have HO := qm.out
       (exact ck)
      ·cases s4
       ·go_upto_region 8 with fail
        iterate 40 (first | (with_reducible show bodyPost _ _ _ _ _ _) | (with_reducible refine wp_ret ?_) | go_values | go_skip | go_guarded | go_step | go_upon | go_back | skip)
        refine bodyPost_ret (v := .tuple #[.agg #[.int .i64 0, .int .i64 0, .int .i64 0], .bool false]) (by simp [results, Try.results24, go_sem, qw, qx, qy]) rfl ⟨rfl, ?_⟩
        have HO := qm.out
        (exact ck)
       ·simp at hq5
   ·obtain rfl : k = m := by omega
    have hR := HR.out
    rw [HM.out] at hR
    obtain ⟨rfl, rfl, rfl, rfl⟩ : a = r1 ∧ b = r2 ∧ c = r3 ∧ true = r4 := by simpa using hR
    go_upto_region 11 with fail
    replace qn := qn.out
    replace qo := qo.out
    refine chk (fun W => Below w.heap.size w W ∧ W.heap[w.heap.size + 1]? = some (.cells #[.int .i64 0, .int .i64 0, .int .i64 0] 45 (0, 0)) ∧ W.heap[w2.heap.size]? = some (.cells #[.int .i64 a, .int .i64 b, .int .i64 c] 45 (0, 0))) (by refine ⟨?_, ?_, ?_⟩ <;> (exact ck)) ?_
    clear zp zq ju qn
    clear zr zt zu jv qo
    clear hB2
    rintro w1 ⟨hB1, zo, jt⟩
    obtain ⟨yi, yj, yl, vv, vw⟩ := bk3 zo
    replace zo := Lib.hid zo
    obtain ⟨vk, vm, vn, vx, vy⟩ := bk3 jt
    replace jt := Lib.hid jt
    iterate 40 (first | (with_reducible show bodyPost _ _ _ _ _ _) | (with_reducible refine wp_ret ?_) | go_values | go_skip | go_guarded | go_step | go_upon | go_back | skip)
    refine bodyPost_ret (v := .tuple #[.agg #[.int .i64 a, .int .i64 b, .int .i64 c], .bool true]) (by simp [results, Try.results24, go_sem, yi, yj, yl]) rfl ⟨rfl, ?_⟩
    have HO := zo.out
    (exact ck)
end Go.Proofs.Ytbnglnbcfabmgaa
