/- Lemmas and contracts of functions. No condition. -/
import Derived.Test.YtbnglnbcfabmgaaPf21
import Derived.Test.YtbnglnbcfabmgaaPf26
import Derived.IntWalk
namespace Go.Proofs.Ytbnglnbcfabmgaa
open Go.RowKit
set_option linter.unusedVariables false
set_option maxHeartbeats 16000000
set_option maxRecDepth 20000
set_option linter.unusedSimpArgs false
attribute [local go_sem] openAt openUpon
noncomputable def cmV (A B : Int) (zs : List Int) (n : Nat) (ns : List Int) (m : Nat) : P4 := if (plB A B zs n && fitB n m ns) = true then cmS A zs ns n else (0, 0, 0, false)
theorem cmV_cases (A B : Int) (zs : List Int) (n : Nat) (ns : List Int) (m : Nat) : (plB A B zs n = false ∧ cmV A B zs n ns m = (0, 0, 0, false)) ∨ (plB A B zs n = true ∧ (fitB n m ns = false ∧ cmV A B zs n ns m = (0, 0, 0, false) ∨ fitB n m ns = true ∧ cmV A B zs n ns m = cmS A zs ns n)) := by
 unfold cmV
 cases h1 : plB A B zs n
 ·left; exact ⟨rfl, by simp⟩
 ·right; refine ⟨rfl, ?_⟩
  cases h2 : fitB n m ns
  ·left; exact ⟨rfl, by simp⟩
  ·right; exact ⟨rfl, by simp⟩
theorem plB_out {A B : Int} {zs : List Int} {n : Nat} (h : plB A B zs n = true) : cvB A B = true ∧ (1 ≤ n ∧ n ≤ 4) ∧ ∀ j, j < n → ptB A B (zs[j * 3]?.getD 0) (zs[j * 3 + 1]?.getD 0) (zs[j * 3 + 2]?.getD 0) = true := by
 unfold plB at h
 simp only [Bool.and_eq_true] at h
 refine ⟨h.1, by have := inB_iff.1 h.2.1; omega, fun j hj => ?_⟩
 have := h.2.2
 unfold ptsB at this
 rw [List.all_eq_true] at this
 exact this j (by simpa using hj)
theorem fitB_out {n m : Nat} {ns : List Int} (h : fitB n m ns = true) : m = n ∧ ∀ j, j < n → -12 ≤ ns[j]?.getD 0 ∧ ns[j]?.getD 0 ≤ 12 := by
 unfold fitB at h
 simp only [Bool.and_eq_true, decide_eq_true_eq] at h
 obtain ⟨rfl, h⟩ := h
 exact ⟨rfl, fun j hj => allB_at h hj⟩
theorem cmS_step {A : Int} {zs ns : List Int} {k : Nat} {a b c X Y E N : Int} {q1 q2 q3 : Int} {q4 : Bool} (h : cmS A zs ns k = (a, b, c, true)) (hX : zs[k * 3]?.getD 0 = X) (hY : zs[k * 3 + 1]?.getD 0 = Y) (hE : zs[k * 3 + 2]?.getD 0 = E) (hN : ns[k]?.getD 0 = N) (hq : ptN A X Y E N = (q1, q2, q3, q4)) :
  cmS A zs ns (k + 1) = if q4 = true then ptS A a b c q1 q2 q3 else (0, 0, 0, false) := by
 simp only [cmS, h, hX, hY, hE, hN, hq, true_and]
theorem cmS_out {A : Int} {zs ns : List Int} {k n : Nat} (h : cmS A zs ns (k + 1) = (0, 0, 0, false)) (hk : k < n) : cmS A zs ns n = (0, 0, 0, false) := by
 by_cases e : n = k + 1
 ·subst e; exact h
 ·exact cmS_no (show (cmS A zs ns (k + 1)).2.2.2 = false by rw [h]) n (by omega)
theorem zfar1 {w : World} {b1 o1 b2 o2 : Nat} {x v : Value} (h : w.cell? ⟨b2, o2, none⟩ = some v) (hne : b1 ≠ b2) : (w.setCell ⟨b1, o1, none⟩ x).cell? ⟨b2, o2, none⟩ = some v := by
 rw [← h]
 exact World.cell?_of_block (a := ⟨b2, o2, none⟩) (Below.heap_setCell w ⟨b1, o1, none⟩ x b2 (fun e => hne e.symm))
theorem zfar3 {w : World} {b1 o1 o1' o1'' b2 o2 : Nat} {x y z v : Value} (h : w.cell? ⟨b2, o2, none⟩ = some v) (hne : b1 ≠ b2) : (((w.setCell ⟨b1, o1, none⟩ x).setCell ⟨b1, o1', none⟩ y).setCell ⟨b1, o1'', none⟩ z).cell? ⟨b2, o2, none⟩ = some v := zfar1 (zfar1 (zfar1 h hne) hne) hne
theorem zcellAtQ {Q : Prop} {W w1 : World} (hb : Below W.heap.size W w1) (b : Nat) (h : b < W.heap.size) (k : (∀ o, w1.cell? ⟨b, o, none⟩ = W.cell? ⟨b, o, none⟩) → (∀ o, w1.frozen? ⟨b, o, none⟩ = W.frozen? ⟨b, o, none⟩) → b < w1.heap.size → Q) : Q := k (cellAt hb b h) (frozAt hb b h) (Nat.lt_of_lt_of_le h hb.size)
def CmRel (w w4 : World) (A B : Int) (zs ns : List Int) (n : Nat) (iv : Value) (wr : World) : Prop := ∃ (k : Nat) (a b c : Int), iv = .int .i64 k ∧ k ≤ n ∧ cmS A zs ns k = (a, b, c, true) ∧
 wr.heap[w.heap.size]? = some (.cells #[.int .i64 A, .int .i64 B] 29 (0, 0)) ∧ wr.heap[w.heap.size + 1]? = some (.cells #[.int .i64 0, .int .i64 0, .int .i64 0] 45 (0, 0)) ∧
 wr.heap[w4.heap.size]? = some (.cells #[.int .i64 a, .int .i64 b, .int .i64 c] 45 (0, 0)) ∧ Below w.heap.size w wr
theorem sCombinePoints_any (A B : Int) (a0 b0 : Option Addr) (n c0 m d0 : Nat) (zs ns : List Int) (w : World) (hp : Px w a0 n c0 zs) (hs : Sx w b0 m d0 ns) :
  Calls Try.prog 35 #[.agg #[.int .i64 A, .int .i64 B], .slice a0 n c0, .slice b0 m d0] w fun r w' =>
   r = .returned (.tuple #[.agg #[.int .i64 (cmV A B zs n ns m).1, .int .i64 (cmV A B zs n ns m).2.1, .int .i64 (cmV A B zs n ns m).2.2.1], .bool (cmV A B zs n ns m).2.2.2]) ∧ Below w.heap.size w w' := by
 have hnm := hp.cap
 have hnm2 := hp.max
 have T1 := fun (W : World) (hW : Below w.heap.size w W) => Lib.hid (hpList_any A B a0 n c0 zs W (hp.below hW))
 have T2 := fun (W : World) (hW : Below w.heap.size w W) => Lib.hid (hpNumbers_any (a := a0) (n := n) (c := c0) W (hs.below hW) (by omega))
 unfold maxLen at hnm2
 rcases cmV_cases A B zs n ns m with ⟨h1, e1⟩ | ⟨h1, ⟨h2, e1⟩ | ⟨h2, e1⟩⟩
 ·rw [e1]
  rw [h1] at T1
  clear h1 e1
  have tok1 := trivial
  go_enter Try.func35, Try.ntmps35
  go_wp2_with (first | (have _t := tok1; go_at_call 33; (with_reducible refine ((T1 _ bel).out).mono ?_); rintro e w1 ⟨rfl, hb1⟩; clear tok1 _t; have hz1 := hb1.size; (try simp only [sA, sB, sC, sD] at hz1); (try (obtain ⟨kq, xi⟩ := cfAt hb1 (w.heap.size); have qx := kq 0; have qy := kq 1; clear kq; simp [go_sem, *] at qx qy xi)); (try have yh : w.heap.size < w1.heap.size := by omega); (try (obtain ⟨kq, xj⟩ := cfAt hb1 (w.heap.size + 1); have qz := kq 0; have xa := kq 1; have xb := kq 2; clear kq; simp [go_sem, *] at qz xa xb xj)); (try have yi : w.heap.size + 1 < w1.heap.size := by omega)) | (go_at_call 19; (with_reducible refine ((T2 _ bel).out).mono ?_); rintro e w' ⟨rfl, rfl⟩))
  refine bodyPost_ret (v := _) (by simp [results, Try.results35, go_sem, *]) rfl ⟨rfl, ?_⟩
  exact bel
 ·rw [e1]
  rw [h1] at T1
  rw [h2] at T2
  clear h1 h2 e1
  have tok1 := trivial
  go_enter Try.func35, Try.ntmps35
  go_wp2_with (first | (have _t := tok1; go_at_call 33; (with_reducible refine ((T1 _ bel).out).mono ?_); rintro e w1 ⟨rfl, hb1⟩; clear tok1 _t; have hz1 := hb1.size; (try simp only [sA, sB, sC, sD] at hz1); (try (obtain ⟨kq, xi⟩ := cfAt hb1 (w.heap.size); have qx := kq 0; have qy := kq 1; clear kq; simp [go_sem, *] at qx qy xi)); (try have yh : w.heap.size < w1.heap.size := by omega); (try (obtain ⟨kq, xj⟩ := cfAt hb1 (w.heap.size + 1); have qz := kq 0; have xa := kq 1; have xb := kq 2; clear kq; simp [go_sem, *] at qz xa xb xj)); (try have yi : w.heap.size + 1 < w1.heap.size := by omega)) | (go_at_call 19; (with_reducible refine ((T2 _ bel).out).mono ?_); rintro e w' ⟨rfl, rfl⟩))
  refine bodyPost_ret (v := _) (by simp [results, Try.results35, go_sem, *]) rfl ⟨rfl, ?_⟩
  exact bel
 ·rw [e1]
  clear e1
  obtain ⟨hcv, hn4, hpt⟩ := plB_out h1
  obtain ⟨rfl, hfit⟩ := fitB_out h2
  rw [h1] at T1
  rw [h2] at T2
  clear h1 h2
  have hcb := cvB_bd hcv
  have hA : -1000 ≤ A ∧ A ≤ 1000 := by omega
  have hB : -10000 ≤ B ∧ B ≤ 10000 := by omega
  clear hcb
  obtain ⟨r1, r2, r3, r4, hr⟩ := pt4 (cmS A zs ns m)
  rw [hr]
  have HR := Lib.hid hr
  clear hr hcv
  have tok1 := trivial
  have tok2 := trivial
  have tok3 := trivial
  have tok4 := trivial
  have tok5 := trivial
  have tok6 := trivial
  go_enter Try.func35, Try.ntmps35
  go_upto_region 1 with fail
  refine chk (fun W => Below w.heap.size w W ∧ W.heap[w.heap.size]? = some (.cells #[.int .i64 A, .int .i64 B] 29 (0, 0)) ∧ W.heap[w.heap.size + 1]? = some (.cells #[.int .i64 0, .int .i64 0, .int .i64 0] 45 (0, 0))) (by refine ⟨?_, ?_, ?_⟩ <;> (exact ck)) ?_
  rintro w40 ⟨hB40, xc, xd⟩
  obtain ⟨yj, yl, vk, wu⟩ := bk2 xc
  replace xc := Lib.hid xc
  obtain ⟨ym, yn, yo, vm, wv⟩ := bk3 xd
  replace xd := Lib.hid xd
  go_upto_region 3 with (first | (have _t := tok1; go_at_call 33; (with_reducible refine ((T1 _ bel).out).mono ?_); rintro e w1 ⟨rfl, hb1⟩; clear tok1 _t; have hz1 := hb1.size; (try simp only [sA, sB, sC, sD] at hz1); (try (obtain ⟨kq, xi⟩ := cfAt hb1 (w.heap.size); have qx := kq 0; have qy := kq 1; clear kq; simp [go_sem, *] at qx qy xi)); (try have yh : w.heap.size < w1.heap.size := by omega); (try (obtain ⟨kq, xj⟩ := cfAt hb1 (w.heap.size + 1); have qz := kq 0; have xa := kq 1; have xb := kq 2; clear kq; simp [go_sem, *] at qz xa xb xj)); (try have yi : w.heap.size + 1 < w1.heap.size := by omega)) | (go_at_call 19; (with_reducible refine ((T2 _ bel).out).mono ?_); rintro e w' ⟨rfl, rfl⟩))
  have xm := (hb1.block (w.heap.size) (blk_lt' xc.out)).trans xc.out
  clear yj yl vk xc
  obtain ⟨yz, va, vn, ww⟩ := bk2 xm
  replace xm := Lib.hid xm
  have qm := (hb1.block (w.heap.size + 1) (blk_lt' xd.out)).trans xd.out
  clear ym yn yo vm xd
  obtain ⟨xn, xo, xp, yp, vo⟩ := bk3 qm
  replace qm := Lib.hid qm
  have hB1 : Below w.heap.size w w1 := below_via hb1 (by assumption) (by go_size)
  replace xm := xm.out
  replace qm := qm.out
  refine chk (fun W => Below w.heap.size w W ∧ W.heap[w.heap.size]? = some (.cells #[.int .i64 A, .int .i64 B] 29 (0, 0)) ∧ W.heap[w.heap.size + 1]? = some (.cells #[.int .i64 0, .int .i64 0, .int .i64 0] 45 (0, 0))) (by refine ⟨?_, ?_, ?_⟩ <;> (exact ck)) ?_
  clear yz va vn xm
  clear xn xo xp yp qm
  clear hB1
  rintro w2 ⟨hB2, qo, qp⟩
  obtain ⟨jd, je, yr, wx⟩ := bk2 qo
  replace qo := Lib.hid qo
  obtain ⟨jf, jg, jh, yt, wy⟩ := bk3 qp
  replace qp := Lib.hid qp
  clear T1 T2
  go_wp2_with fail
  go_loopw [29] (fun iv wr => CmRel w w2 A B zs ns m iv wr) (fun iv _ => (m - intOf iv).toNat)
  case atStart =>
   have q1 := qo.out
   have q2 := qp.out
   exact ⟨0, 0, 0, 0, rfl, by omega, rfl, ck, ck, ck, ck⟩
  case round =>
   obtain ⟨k, a, b, c, rfl, hk, hm, hC, hO, hS, hbw⟩ := hrel
   have HM := Lib.hid hm
   clear hm
   by_cases hlt : k < m
   ·have hltc : (k : Int) < m := by omega
    obtain ⟨b1, off, rfl, hb1, hcs⟩ := hp.at (by omega)
    obtain ⟨b2, off2, rfl, hb2, hcs2⟩ := hs.at (by omega)
    have d0 := hcs2 k hlt
    have e0 := (hbw.cell (p := ⟨b1, off + k * 3, none⟩) hb1).trans (hcs (k * 3) (by omega))
    have e1 := (hbw.cell (p := ⟨b1, off + k * 3 + 1, none⟩) hb1).trans (hcs (k * 3 + 1) (by omega))
    have e2 := (hbw.cell (p := ⟨b1, off + k * 3 + 2, none⟩) hb1).trans (hcs (k * 3 + 2) (by omega))
    have hpk := hpt k hlt
    have hnk := hfit k hlt
    obtain ⟨X, hX⟩ : ∃ v, zs[k * 3]?.getD 0 = v := ⟨_, rfl⟩
    obtain ⟨Y, hY⟩ : ∃ v, zs[k * 3 + 1]?.getD 0 = v := ⟨_, rfl⟩
    obtain ⟨E, hE⟩ : ∃ v, zs[k * 3 + 2]?.getD 0 = v := ⟨_, rfl⟩
    obtain ⟨N, hN⟩ : ∃ v, ns[k]?.getD 0 = v := ⟨_, rfl⟩
    rw [hX] at e0
    rw [hY] at e1
    rw [hE] at e2
    rw [hN] at d0 hnk
    rw [hX, hY, hE] at hpk
    have TT := fun W : World => Lib.hid (ptTimes_any A B X Y E N W hA hB hpk hnk)
    have hok2 := ptN_ok (n := N) hA hB hpk
    have hok1 := cmS_ok (ns := ns) hA hB hpt k (by omega)
    rw [HM.out] at hok1
    obtain ⟨q1, q2, q3, q4, hq⟩ := pt4 (ptN A X Y E N)
    have hst := cmS_step HM.out hX hY hE hN hq
    have HST := Lib.hid hst
    have D0 := Lib.hid d0
    clear d0
    rw [hq] at TT hok2
    have HOK1 := Lib.hid hok1
    have HOK2 := Lib.hid hok2
    have hsw := hbw.size
    clear hst hX hY hE hN hq hok1 hok2 hcs hcs2 hpk hnk
    go_upto_region 7 with fail
    replace qo := qo.out
    replace qp := qp.out
    refine chk (fun W => Below w.heap.size w W ∧ W.heap[w.heap.size]? = some (.cells #[.int .i64 A, .int .i64 B] 29 (0, 0)) ∧ W.heap[w.heap.size + 1]? = some (.cells #[.int .i64 0, .int .i64 0, .int .i64 0] 45 (0, 0)) ∧ W.heap[w2.heap.size]? = some (.cells #[.int .i64 a, .int .i64 b, .int .i64 c] 45 (0, 0)) ∧ W.heap[wr.heap.size]? = some (.cells #[.int .i64 X, .int .i64 Y, .int .i64 E] 45 (0, 0))) (by refine ⟨?_, ?_, ?_, ?_, ?_⟩ <;> (exact ck)) ?_
    clear jd je yr qo
    clear jf jg jh yt qp
    clear hB2
    rintro w3 ⟨hB3, qq, qr, qt, qu⟩
    obtain ⟨ji, jj, yu, wz⟩ := bk2 qq
    replace qq := Lib.hid qq
    obtain ⟨jk, jl, jm, yv, ua⟩ := bk3 qr
    replace qr := Lib.hid qr
    obtain ⟨jn, jo, jp, yw, ub⟩ := bk3 qt
    replace qt := Lib.hid qt
    obtain ⟨jq, jr, jt, yx, uc⟩ := bk3 qu
    replace qu := Lib.hid qu
    have d0 := (hB3.cell (p := ⟨b2, off2 + k, none⟩) hb2).trans D0.out
    have hb23 : b2 < w3.heap.size := by have := hB3.size; omega
    clear e0 e1 e2 hC hO hS
    have HAB := Lib.hid (And.intro hA hB)
    have HPS := Lib.hid (And.intro hp hs)
    have HFT := Lib.hid (And.intro hpt hfit)
    clear hA hB hp hs hpt hfit hnm hnm2
    go_region_held3 (fun w' => w'.cell? ⟨w.heap.size, 0, none⟩ = some (.int .i64 A) ∧ w'.cell? ⟨w.heap.size, 1, none⟩ = some (.int .i64 B) ∧ w'.cell? ⟨wr.heap.size, 0, none⟩ = some (.int .i64 X) ∧ w'.cell? ⟨wr.heap.size, 1, none⟩ = some (.int .i64 Y) ∧ w'.cell? ⟨wr.heap.size, 2, none⟩ = some (.int .i64 E) ∧ w'.cell? ⟨b2, off2 + k, none⟩ = some (.int .i64 N)) (first | (refine ⟨zfar3 (by assumption) ?_, zfar3 (by assumption) ?_, zfar3 (by assumption) ?_, zfar3 (by assumption) ?_, zfar3 (by assumption) ?_, zfar3 (by assumption) ?_⟩ <;> (focus (omega; done))) | (go_keep; done)) (first | (go_at_call 52; (with_reducible refine ((TT _).out).mono ?_); have HH := ‹World.cell? _ ⟨w.heap.size, 0, none⟩ = some (.int .i64 A) ∧ _›; rintro e w4 ⟨rfl, hb4⟩; have z4 := hb4.size; (try simp only [sA, sB, sC, sD] at z4); (try (refine zcellAtQ hb4 (w3.heap.size) ?_ ?_; (focus (go_size; done)); intro kq zf zl; have z0 := kq 0; have z1 := kq 1; have z2 := kq 2; clear kq; (try simp [go_sem, *] at z0 z1 z2 zf))); have q0_ : w4.cell? ⟨w.heap.size, 0, none⟩ = some (.int .i64 A) := (hb4.cell (p := ⟨w.heap.size, 0, none⟩) (by go_size)).trans HH.1; have q1_ : w4.cell? ⟨w.heap.size, 1, none⟩ = some (.int .i64 B) := (hb4.cell (p := ⟨w.heap.size, 1, none⟩) (by go_size)).trans HH.2.1; have q2_ : w4.cell? ⟨wr.heap.size, 0, none⟩ = some (.int .i64 X) := (hb4.cell (p := ⟨wr.heap.size, 0, none⟩) (by go_size)).trans HH.2.2.1; have q3_ : w4.cell? ⟨wr.heap.size, 1, none⟩ = some (.int .i64 Y) := (hb4.cell (p := ⟨wr.heap.size, 1, none⟩) (by go_size)).trans HH.2.2.2.1; have q4_ : w4.cell? ⟨wr.heap.size, 2, none⟩ = some (.int .i64 E) := (hb4.cell (p := ⟨wr.heap.size, 2, none⟩) (by go_size)).trans HH.2.2.2.2.1; have q5_ : w4.cell? ⟨b2, off2 + k, none⟩ = some (.int .i64 N) := (hb4.cell (p := ⟨b2, off2 + k, none⟩) (by go_size)).trans HH.2.2.2.2.2))
    ·have _t := trivial
     (try have HZ : w4.heap[w3.heap.size]? = some (.cells #[.int .i64 0, .int .i64 0, .int .i64 0] 45 (0, 0)) := (hb4.block w3.heap.size (by simp)).trans (heap_alloc_new w3 _))
     have HY := heap_alloc_new w4 (.cells #[.int .i64 q1, .int .i64 q2, .int .i64 q3] 45 (0, 0))
     have hb40 : Below w3.heap.size w3 w4 := by first | exact below_via hb4 ((Below.refl _ w3).drew) (Nat.le_refl _) | exact below_via hb4 (((Below.refl _ w3).alloc (Nat.le_refl _) _).drew) (by simp)
     clear hb4 q0_ q1_ q2_ q3_ q4_ q5_
     have hb4 := hb40
     clear hb40
     have qb := (hb4.block (w.heap.size) (blk_lt' qq.out)).trans qq.out
     clear ji jj yu qq
     obtain ⟨xr, xt, ju, vp⟩ := bk2 qb
     replace qb := Lib.hid qb
     have qc := (hb4.block (w.heap.size + 1) (blk_lt' qr.out)).trans qr.out
     clear jk jl jm yv qr
     obtain ⟨xu, xw, xx, jv, vq⟩ := bk3 qc
     replace qc := Lib.hid qc
     have qd := (hb4.block (w2.heap.size) (blk_lt' qt.out)).trans qt.out
     clear jn jo jp yw qt
     obtain ⟨xy, xz, za, jw, vr⟩ := bk3 qd
     replace qd := Lib.hid qd
     have qe := (hb4.block (wr.heap.size) (blk_lt' qu.out)).trans qu.out
     clear jq jr jt yx qu
     obtain ⟨zb, zc, zd, jx, vt⟩ := bk3 qe
     replace qe := Lib.hid qe
     have hB4 : Below w.heap.size w w4 := below_via hb4 (by assumption) (by go_size)
     go_upto_region 8 with fail
     replace qb := qb.out
     replace qc := qc.out
     replace qd := qd.out
     replace qe := qe.out
     refine chk (fun W => Below w.heap.size w W ∧ W.heap[w.heap.size]? = some (.cells #[.int .i64 A, .int .i64 B] 29 (0, 0)) ∧ W.heap[w.heap.size + 1]? = some (.cells #[.int .i64 0, .int .i64 0, .int .i64 0] 45 (0, 0)) ∧ W.heap[w2.heap.size]? = some (.cells #[.int .i64 a, .int .i64 b, .int .i64 c] 45 (0, 0)) ∧ W.heap[w4.heap.size]? = some (.cells #[.int .i64 q1, .int .i64 q2, .int .i64 q3] 45 (0, 0))) (by refine ⟨?_, ?_, ?_, ?_, ?_⟩ <;> (exact ck)) ?_
     clear xr xt ju qb
     clear xu xw xx jv qc
     clear xy xz za jw qd
     clear zb zc zd jx qe
     clear hB4
     rintro w5 ⟨hB5, qf, qa, qg, qh⟩
     obtain ⟨ze, zg, jy, vu⟩ := bk2 qf
     replace qf := Lib.hid qf
     obtain ⟨xe, xf, xg, jz, vv⟩ := bk3 qa
     replace qa := Lib.hid qa
     obtain ⟨zh, zi, zj, ya, vw⟩ := bk3 qg
     replace qg := Lib.hid qg
     obtain ⟨zk, zm, zn, yb, vx⟩ := bk3 qh
     replace qh := Lib.hid qh
     clear d0 hb23
     have hA := HAB.out.1
     have hB := HAB.out.2
     cases q4
     ·have hz := HST.out
      rw [if_neg (by simp)] at hz
      have hR := cmS_out hz hlt
      rw [HR.out] at hR
      obtain ⟨rfl, rfl, rfl, rfl⟩ : r1 = 0 ∧ r2 = 0 ∧ r3 = 0 ∧ r4 = false := by simpa using hR
      go_upto_region 9 with fail
      iterate 40 (first | (with_reducible show bodyPost _ _ _ _ _ _) | (with_reducible refine wp_ret ?_) | go_values | go_skip | go_guarded | go_step | go_upon | go_back | skip)
      refine bodyPost_ret (v := .tuple #[.agg #[.int .i64 0, .int .i64 0, .int .i64 0], .bool false]) (by simp [results, Try.results35, go_sem, xe, xf, xg]) rfl ⟨rfl, ?_⟩
      have HO := qa.out
      (exact ck)
     ·have hz := HST.out
      rw [if_pos rfl] at hz
      have hpa : ptB A B a b c = true := by rcases HOK1.out with ⟨_, h⟩ | h; exact h; simp at h
      have hpq : ptB A B q1 q2 q3 = true := by rcases HOK2.out with ⟨_, h⟩ | h; exact h; simp at h
      have TA := fun W : World => ptAdd_any A B a b c q1 q2 q3 W hA hB hpa hpq
      obtain ⟨s1, s2, s3, s4, hs4⟩ := pt4 (ptS A a b c q1 q2 q3)
      rw [hs4] at hz
      simp only [hs4] at TA
      have HZ2 := Lib.hid hz
      clear hz hs4 hpa hpq
      go_upto_region 11 with (first | (have _t := tok6; go_at_call 53; (with_reducible refine ((TA _)).mono ?_); rintro e w6 ⟨rfl, hb6⟩; clear tok6 _t; have hz6 := hb6.size; (try simp only [sA, sB, sC, sD] at hz6)))
      have qi := (hb6.block (w.heap.size) (blk_lt' qf.out)).trans qf.out
      clear ze zg jy qf
      obtain ⟨zo, zp, yc, vy⟩ := bk2 qi
      replace qi := Lib.hid qi
      have qj := (hb6.block (w.heap.size + 1) (blk_lt' qa.out)).trans qa.out
      clear xe xf xg jz qa
      obtain ⟨zq, zr, zt, yd, vz⟩ := bk3 qj
      replace qj := Lib.hid qj
      have qk := (hb6.block (w2.heap.size) (blk_lt' qg.out)).trans qg.out
      clear zh zi zj ya qg
      obtain ⟨zu, zv, zw, ye, wc⟩ := bk3 qk
      replace qk := Lib.hid qk
      have ql := (hb6.block (w4.heap.size) (blk_lt' qh.out)).trans qh.out
      clear zk zm zn yb qh
      obtain ⟨zx, zy, zz, yf, wd⟩ := bk3 ql
      replace ql := Lib.hid ql
      have hB6 : Below w.heap.size w w6 := below_via hb6 (by assumption) (by go_size)
      replace qi := qi.out
      replace qj := qj.out
      replace qk := qk.out
      replace ql := ql.out
      refine chk (fun W => Below w.heap.size w W ∧ W.heap[w.heap.size]? = some (.cells #[.int .i64 A, .int .i64 B] 29 (0, 0)) ∧ W.heap[w.heap.size + 1]? = some (.cells #[.int .i64 0, .int .i64 0, .int .i64 0] 45 (0, 0)) ∧ W.heap[w2.heap.size]? = some (.cells #[.int .i64 a, .int .i64 b, .int .i64 c] 45 (0, 0)) ∧ W.heap[w6.heap.size]? = some (.cells #[.int .i64 s1, .int .i64 s2, .int .i64 s3] 45 (0, 0))) (by refine ⟨?_, ?_, ?_, ?_, ?_⟩ <;> (exact ck)) ?_
      clear zo zp yc qi
      clear zq zr zt yd qj
      clear zu zv zw ye qk
      clear zx zy zz yf ql
      clear hB6
      rintro w7 ⟨hB7, qv, qn, qw, xh⟩
      obtain ⟨vb, vc, wg, wi⟩ := bk2 qv
      replace qv := Lib.hid qv
      obtain ⟨ja, jb, jc, wj, wk⟩ := bk3 qn
      replace qn := Lib.hid qn
      obtain ⟨vd, vf, vg, wl, wm⟩ := bk3 qw
      replace qw := Lib.hid qw
      obtain ⟨vh, vi, vj, wn, wo⟩ := bk3 xh
      replace xh := Lib.hid xh
      cases s4
      ·have hz := HZ2.out
       have hok := cmS_ok (ns := ns) hA hB HFT.out.1 (k + 1) (by omega)
       rw [hz] at hok
       have h0 : (s1, s2, s3, false) = ((0, 0, 0, false) : P4) := by
        rcases hok with ⟨h, _⟩ | h
        ·cases h
        ·exact h
       rw [h0] at hz
       have hR := cmS_out hz hlt
       rw [HR.out] at hR
       obtain ⟨rfl, rfl, rfl, rfl⟩ : r1 = 0 ∧ r2 = 0 ∧ r3 = 0 ∧ r4 = false := by simpa using hR
       go_upto_region 12 with fail
       iterate 40 (first | (with_reducible show bodyPost _ _ _ _ _ _) | (with_reducible refine wp_ret ?_) | go_values | go_skip | go_guarded | go_step | go_upon | go_back | skip)
       refine bodyPost_ret (v := .tuple #[.agg #[.int .i64 0, .int .i64 0, .int .i64 0], .bool false]) (by simp [results, Try.results35, go_sem, ja, jb, jc]) rfl ⟨rfl, ?_⟩
       have HO := qn.out
       (exact ck)
      ·have _t := trivial
       go_wp2_with fail
       go_roundw
       have q1 := qv.out
       have q2 := qn.out
       have q3 := qw.out
       case rel => exact ⟨k + 1, s1, s2, s3, by go_num, by omega, HZ2.out, ck, ck, ck, ck⟩
       case measure => simp [intOf]; omega
    ·have _t := trivial
     (try have HZ : w4.heap[w3.heap.size]? = some (.cells #[.int .i64 0, .int .i64 0, .int .i64 0] 45 (0, 0)) := (hb4.block w3.heap.size (by simp)).trans (heap_alloc_new w3 _))
     have HY := heap_alloc_new w4 (.cells #[.int .i64 q1, .int .i64 q2, .int .i64 q3] 45 (0, 0))
     have hb40 : Below w3.heap.size w3 w4 := by first | exact below_via hb4 ((Below.refl _ w3).drew) (Nat.le_refl _) | exact below_via hb4 (((Below.refl _ w3).alloc (Nat.le_refl _) _).drew) (by simp)
     clear hb4 q0_ q1_ q2_ q3_ q4_ q5_
     have hb4 := hb40
     clear hb40
     have qb := (hb4.block (w.heap.size) (blk_lt' qq.out)).trans qq.out
     clear ji jj yu qq
     obtain ⟨xr, xt, ju, vp⟩ := bk2 qb
     replace qb := Lib.hid qb
     have qc := (hb4.block (w.heap.size + 1) (blk_lt' qr.out)).trans qr.out
     clear jk jl jm yv qr
     obtain ⟨xu, xw, xx, jv, vq⟩ := bk3 qc
     replace qc := Lib.hid qc
     have qd := (hb4.block (w2.heap.size) (blk_lt' qt.out)).trans qt.out
     clear jn jo jp yw qt
     obtain ⟨xy, xz, za, jw, vr⟩ := bk3 qd
     replace qd := Lib.hid qd
     have qe := (hb4.block (wr.heap.size) (blk_lt' qu.out)).trans qu.out
     clear jq jr jt yx qu
     obtain ⟨zb, zc, zd, jx, vt⟩ := bk3 qe
     replace qe := Lib.hid qe
     have hB4 : Below w.heap.size w w4 := below_via hb4 (by assumption) (by go_size)
     go_upto_region 8 with fail
     replace qb := qb.out
     replace qc := qc.out
     replace qd := qd.out
     replace qe := qe.out
     refine chk (fun W => Below w.heap.size w W ∧ W.heap[w.heap.size]? = some (.cells #[.int .i64 A, .int .i64 B] 29 (0, 0)) ∧ W.heap[w.heap.size + 1]? = some (.cells #[.int .i64 0, .int .i64 0, .int .i64 0] 45 (0, 0)) ∧ W.heap[w2.heap.size]? = some (.cells #[.int .i64 a, .int .i64 b, .int .i64 c] 45 (0, 0)) ∧ W.heap[w3.heap.size]? = some (.cells #[.int .i64 q1, .int .i64 q2, .int .i64 q3] 45 (0, 0))) (by refine ⟨?_, ?_, ?_, ?_, ?_⟩ <;> (exact ck)) ?_
     clear xr xt ju qb
     clear xu xw xx jv qc
     clear xy xz za jw qd
     clear zb zc zd jx qe
     clear hB4
     rintro w5 ⟨hB5, qf, qa, qg, qh⟩
     obtain ⟨ze, zg, jy, vu⟩ := bk2 qf
     replace qf := Lib.hid qf
     obtain ⟨xe, xf, xg, jz, vv⟩ := bk3 qa
     replace qa := Lib.hid qa
     obtain ⟨zh, zi, zj, ya, vw⟩ := bk3 qg
     replace qg := Lib.hid qg
     obtain ⟨zk, zm, zn, yb, vx⟩ := bk3 qh
     replace qh := Lib.hid qh
     clear d0 hb23
     have hA := HAB.out.1
     have hB := HAB.out.2
     cases q4
     ·have hz := HST.out
      rw [if_neg (by simp)] at hz
      have hR := cmS_out hz hlt
      rw [HR.out] at hR
      obtain ⟨rfl, rfl, rfl, rfl⟩ : r1 = 0 ∧ r2 = 0 ∧ r3 = 0 ∧ r4 = false := by simpa using hR
      go_upto_region 9 with fail
      iterate 40 (first | (with_reducible show bodyPost _ _ _ _ _ _) | (with_reducible refine wp_ret ?_) | go_values | go_skip | go_guarded | go_step | go_upon | go_back | skip)
      refine bodyPost_ret (v := .tuple #[.agg #[.int .i64 0, .int .i64 0, .int .i64 0], .bool false]) (by simp [results, Try.results35, go_sem, xe, xf, xg]) rfl ⟨rfl, ?_⟩
      have HO := qa.out
      (exact ck)
     ·have hz := HST.out
      rw [if_pos rfl] at hz
      have hpa : ptB A B a b c = true := by rcases HOK1.out with ⟨_, h⟩ | h; exact h; simp at h
      have hpq : ptB A B q1 q2 q3 = true := by rcases HOK2.out with ⟨_, h⟩ | h; exact h; simp at h
      have TA := fun W : World => ptAdd_any A B a b c q1 q2 q3 W hA hB hpa hpq
      obtain ⟨s1, s2, s3, s4, hs4⟩ := pt4 (ptS A a b c q1 q2 q3)
      rw [hs4] at hz
      simp only [hs4] at TA
      have HZ2 := Lib.hid hz
      clear hz hs4 hpa hpq
      go_upto_region 11 with (first | (have _t := tok6; go_at_call 53; (with_reducible refine ((TA _)).mono ?_); rintro e w6 ⟨rfl, hb6⟩; clear tok6 _t; have hz6 := hb6.size; (try simp only [sA, sB, sC, sD] at hz6)))
      have qi := (hb6.block (w.heap.size) (blk_lt' qf.out)).trans qf.out
      clear ze zg jy qf
      obtain ⟨zo, zp, yc, vy⟩ := bk2 qi
      replace qi := Lib.hid qi
      have qj := (hb6.block (w.heap.size + 1) (blk_lt' qa.out)).trans qa.out
      clear xe xf xg jz qa
      obtain ⟨zq, zr, zt, yd, vz⟩ := bk3 qj
      replace qj := Lib.hid qj
      have qk := (hb6.block (w2.heap.size) (blk_lt' qg.out)).trans qg.out
      clear zh zi zj ya qg
      obtain ⟨zu, zv, zw, ye, wc⟩ := bk3 qk
      replace qk := Lib.hid qk
      have ql := (hb6.block (w3.heap.size) (blk_lt' qh.out)).trans qh.out
      clear zk zm zn yb qh
      obtain ⟨zx, zy, zz, yf, wd⟩ := bk3 ql
      replace ql := Lib.hid ql
      have hB6 : Below w.heap.size w w6 := below_via hb6 (by assumption) (by go_size)
      replace qi := qi.out
      replace qj := qj.out
      replace qk := qk.out
      replace ql := ql.out
      refine chk (fun W => Below w.heap.size w W ∧ W.heap[w.heap.size]? = some (.cells #[.int .i64 A, .int .i64 B] 29 (0, 0)) ∧ W.heap[w.heap.size + 1]? = some (.cells #[.int .i64 0, .int .i64 0, .int .i64 0] 45 (0, 0)) ∧ W.heap[w2.heap.size]? = some (.cells #[.int .i64 a, .int .i64 b, .int .i64 c] 45 (0, 0)) ∧ W.heap[w6.heap.size]? = some (.cells #[.int .i64 s1, .int .i64 s2, .int .i64 s3] 45 (0, 0))) (by refine ⟨?_, ?_, ?_, ?_, ?_⟩ <;> (exact ck)) ?_
      clear zo zp yc qi
      clear zq zr zt yd qj
      clear zu zv zw ye qk
      clear zx zy zz yf ql
      clear hB6
      rintro w7 ⟨hB7, qv, qn, qw, xh⟩
      obtain ⟨vb, vc, wg, wi⟩ := bk2 qv
      replace qv := Lib.hid qv
      obtain ⟨ja, jb, jc, wj, wk⟩ := bk3 qn
      replace qn := Lib.hid qn
      obtain ⟨vd, vf, vg, wl, wm⟩ := bk3 qw
      replace qw := Lib.hid qw
      obtain ⟨vh, vi, vj, wn, wo⟩ := bk3 xh
      replace xh := Lib.hid xh
      cases s4
      ·have hz := HZ2.out
       have hok := cmS_ok (ns := ns) hA hB HFT.out.1 (k + 1) (by omega)
       rw [hz] at hok
       have h0 : (s1, s2, s3, false) = ((0, 0, 0, false) : P4) := by
        rcases hok with ⟨h, _⟩ | h
        ·cases h
        ·exact h
       rw [h0] at hz
       have hR := cmS_out hz hlt
       rw [HR.out] at hR
       obtain ⟨rfl, rfl, rfl, rfl⟩ : r1 = 0 ∧ r2 = 0 ∧ r3 = 0 ∧ r4 = false := by simpa using hR
       go_upto_region 12 with fail
       iterate 40 (first | (with_reducible show bodyPost _ _ _ _ _ _) | (with_reducible refine wp_ret ?_) | go_values | go_skip | go_guarded | go_step | go_upon | go_back | skip)
       refine bodyPost_ret (v := .tuple #[.agg #[.int .i64 0, .int .i64 0, .int .i64 0], .bool false]) (by simp [results, Try.results35, go_sem, ja, jb, jc]) rfl ⟨rfl, ?_⟩
       have HO := qn.out
       (exact ck)
      ·have _t := trivial
       go_wp2_with fail
       go_roundw
       have q1 := qv.out
       have q2 := qn.out
       have q3 := qw.out
       case rel => exact ⟨k + 1, s1, s2, s3, by go_num, by omega, HZ2.out, ck, ck, ck, ck⟩
       case measure => simp [intOf]; omega
   ·obtain rfl : k = m := by omega
    have hR := HR.out
    rw [HM.out] at hR
    obtain ⟨rfl, rfl, rfl, rfl⟩ : a = r1 ∧ b = r2 ∧ c = r3 ∧ true = r4 := by simpa using hR
    go_upto_region 15 with fail
    replace qo := qo.out
    replace qp := qp.out
    refine chk (fun W => Below w.heap.size w W ∧ W.heap[w.heap.size + 1]? = some (.cells #[.int .i64 0, .int .i64 0, .int .i64 0] 45 (0, 0)) ∧ W.heap[w2.heap.size]? = some (.cells #[.int .i64 a, .int .i64 b, .int .i64 c] 45 (0, 0))) (by refine ⟨?_, ?_, ?_⟩ <;> (exact ck)) ?_
    clear jd je yr qo
    clear jf jg jh yt qp
    clear hB2
    rintro w1 ⟨hB1, qm, yg⟩
    obtain ⟨xn, xo, xp, yp, vo⟩ := bk3 qm
    replace qm := Lib.hid qm
    obtain ⟨wq, ws, wt, ud, ue⟩ := bk3 yg
    replace yg := Lib.hid yg
    iterate 40 (first | (with_reducible show bodyPost _ _ _ _ _ _) | (with_reducible refine wp_ret ?_) | go_values | go_skip | go_guarded | go_step | go_upon | go_back | skip)
    refine bodyPost_ret (v := .tuple #[.agg #[.int .i64 a, .int .i64 b, .int .i64 c], .bool true]) (by simp [results, Try.results35, go_sem, xn, xo, xp]) rfl ⟨rfl, ?_⟩
    have HO := qm.out
    (exact ck)
end Go.Proofs.Ytbnglnbcfabmgaa
