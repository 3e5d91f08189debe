/- Lemmas and contracts of functions. No condition. -/
import Derived.Test.YtbnglnbcfabmgaaPf3
import Derived.Test.YtbnglnbcfabmgaaPf15
import Derived.Test.YtbnglnbcfabmgaaPf28
import Derived.Test.YtbnglnbcfabmgaaPf33
import Derived.Test.YtbnglnbcfabmgaaPf34
import Derived.Test.YtbnglnbcfabmgaaPf35
namespace Go.Proofs.Ytbnglnbcfabmgaa
section
open Go.RowKit
set_option linter.unusedVariables false
set_option maxHeartbeats 4000000
set_option maxRecDepth 20000
set_option linter.unusedSimpArgs false
attribute [local go_sem] openAt openUpon
theorem zeroClosure_any (x : Int) (w : World) : Calls Try.prog 45 #[.int .i64 x] w fun e w' => e = .returned (.bool (!inB x 0 0)) ∧ w = w' := by
 by_cases h : x = 0
 ·subst h
  go_enter Try.func45, Try.ntmps45
  go_wp2_with fail
  go_ret
  exact ⟨rfl, rfl⟩
 ·have hx : (x != 0) = true := by simpa using h
  rw [show inB x 0 0 = false by simp [inB]; omega]
  go_enter Try.func45, Try.ntmps45
  go_wp2_with fail
  go_ret
  exact ⟨rfl, rfl⟩
theorem indexZero_any {a : Option Addr} {n c : Nat} {zs : List Int} (w : World) (h : Sx w a n c zs) :
  Calls Try.prog 58 #[.slice a n c, .func (.func 45) #[] #[]] w fun e w' => ∃ r : Int, e = .returned (.int .i64 r) ∧ decide (0 ≤ r) = !(allB zs 0 0 n) ∧ w = w' := by
 have hnm := h.cap
 have hnm2 := h.max
 unfold maxLen at hnm2
 go_enter Try.func58, Try.ntmps58
 go_wp2_with fail
 go_loopw [5, 8] (fun _ iv wr => ∃ k : Nat, iv = .int .i64 k ∧ k ≤ n ∧ (∀ j, j < k → inB (zs[j]?.getD 0) 0 0 = true) ∧ wr = w) (fun _ iv _ => (n - intOf iv).toNat)
 case atStart => exact ⟨0, rfl, by omega, fun j hj => by omega, rfl⟩
 case round =>
  obtain ⟨k, rfl, hk, hal, rfl⟩ := hrel
  have HAL := Lib.hid hal
  clear hal
  by_cases h0 : k < n
  ·obtain ⟨b, off, rfl, hb, hcs⟩ := h.at (by omega)
   have c0 := hcs k (by omega)
   have hk2 : (k : Int) < (n : Int) := by omega
   clear hcs
   obtain ⟨x, hx⟩ : ∃ v, zs[k]?.getD 0 = v := ⟨_, rfl⟩
   rw [hx] at c0
   have HX := Lib.hid hx
   clear hx
   have T1 := Lib.hid (zeroClosure_any x wr)
   cases hv : inB x 0 0
   ·rw [hv] at T1
    have HV := Lib.hid hv
    clear hv
    go_wp2_with (go_at_call 45; refine (T1.out).mono ?_; rintro e w1 ⟨rfl, rfl⟩)
    go_ret
    exact ⟨_, rfl, by rw [allB_no h0 (by rw [HX.out]; exact HV.out)]; simp, rfl⟩
   ·rw [hv] at T1
    have HV := Lib.hid hv
    clear hv
    go_wp2_with (go_at_call 45; refine (T1.out).mono ?_; rintro e w1 ⟨rfl, rfl⟩)
    go_roundw
    case rel => exact ⟨k + 1, by go_num, by omega, fun j hj => by
     by_cases e : j = k
     ·subst e; rw [HX.out]; exact HV.out
     ·exact HAL.out j (by omega), trivial⟩
    case measure => simp [intOf]; omega
  ·obtain rfl : k = n := by omega
   go_wp2_with fail
   go_ret
   exact ⟨_, rfl, by rw [allB_yes HAL.out]; simp, rfl⟩
theorem containsZero_any {a : Option Addr} {n c : Nat} {zs : List Int} (w : World) (h : Sx w a n c zs) :
  Calls Try.prog 41 #[.slice a n c, .func (.func 45) #[] #[]] w fun e w' => e = .returned (.bool (!(allB zs 0 0 n))) ∧ w = w' := by
 go_enter Try.func41, Try.ntmps41
 go_wp2_with (go_at_call 58; refine (indexZero_any w h).mono ?_; rintro e w1 ⟨r, rfl, hr, rfl⟩; (have HR := Lib.hid hr); clear hr)
 go_ret
 exact ⟨by rw [← HR.out]; rfl, rfl⟩
theorem isZero_any {a : Option Addr} {n c : Nat} {zs : List Int} (w : World) (h : Sx w a n c zs) : Calls Try.prog 25 #[.slice a n c] w fun e w' => e = .returned (.bool (allB zs 0 0 n)) ∧ w = w' := by
 have T1 := fun (W : World) (hW : W = w) => Lib.hid (show Calls Try.prog 41 #[.slice a n c, .func (.func 45) #[] #[]] W fun e w' => e = .returned (.bool (!(allB zs 0 0 n))) ∧ W = w' by subst hW; exact containsZero_any W h)
 generalize allB zs 0 0 n = v at *
 go_enter Try.func25, Try.ntmps25
 go_wp2_with (first | (go_at_call 41; (with_reducible refine ((T1 _ rfl).out).mono ?_); rintro e w' ⟨rfl, rfl⟩))
 go_ret
 exact ⟨by simp, rfl⟩
/-- what IsRelation answers -/
noncomputable def irV (A B : Int) (zs : List Int) (n : Nat) (ns : List Int) (m : Nat) : Bool × Bool :=
 if (plB A B zs n && fitB n m ns) = true then (if (cmS A zs ns n).2.2.2 = true then (!allB ns 0 0 m && orB A (cmS A zs ns n).1 (cmS A zs ns n).2.1 (cmS A zs ns n).2.2.1, true) else (false, false)) else (false, false)
end
section
open Go.RowKit
set_option linter.unusedVariables false
set_option maxHeartbeats 4000000
set_option maxRecDepth 20000
set_option linter.unusedSimpArgs false
attribute [local go_sem] openAt openUpon
theorem idPoints_any (A B : Int) (a : Option Addr) (n c : Nat) (zs : List Int) (w : World) (h : Px w a n c zs) : Calls Try.prog 18 #[.agg #[.int .i64 A, .int .i64 B], .slice a n c] w fun e w' => e = .returned (.bool (plB A B zs n)) ∧ Below w.heap.size w w' := by
 have T1 := fun (W : World) (hW : Below w.heap.size w W) => Lib.hid (hpList_any A B a n c zs W (h.below hW))
 generalize plB A B zs n = v at *
 have tok1 := trivial
 go_enter Try.func18, Try.ntmps18
 go_wp2_with (first | (have _t := tok1; go_at_call 33; (with_reducible refine ((T1 _ bel).out).mono ?_); rintro e w1 ⟨rfl, hb1⟩; clear tok1 _t; have hz1 := hb1.size; (try simp only [sA, sB, sC, sD] at hz1); (try (obtain ⟨kq, qc⟩ := cfAt hb1 (w.heap.size); have qa := kq 0; have qb := kq 1; clear kq; simp [go_sem, *] at qa qb qc)); (try have qd : w.heap.size < w1.heap.size := by omega)))
 go_ret
 refine ⟨rfl, ?_⟩
 exact bel
theorem idRelation_any (A B : Int) (a0 b0 : Option Addr) (n c0 m d0 : Nat) (zs ns : List Int) (w : World) (hp : Px w a0 n c0 zs) (hs : Sx w b0 m d0 ns) :
  Calls Try.prog 20 #[.agg #[.int .i64 A, .int .i64 B], .slice a0 n c0, .slice b0 m d0] w fun r w' => r = .returned (.tuple #[.bool (irV A B zs n ns m).1, .bool (irV A B zs n ns m).2]) ∧ Below w.heap.size w w' := by
 have hnm := hp.cap
 have hnm2 := hp.max
 have T1 := fun (W : World) (hW : Below w.heap.size w W) => sCombinePoints_any A B a0 b0 n c0 m d0 zs ns W (hp.below hW) (hs.below hW)
 have TZ := fun (W : World) (hW : Below w.heap.size w W) => Lib.hid (l1All_any 0 0 W (hs.below hW))
 unfold maxLen at hnm2
 have hcase : (cmV A B zs n ns m).2.2.2 = false ∧ irV A B zs n ns m = (false, false) ∨ (cmV A B zs n ns m).2.2.2 = true ∧ cvB A B = true ∧ ptB A B (cmV A B zs n ns m).1 (cmV A B zs n ns m).2.1 (cmV A B zs n ns m).2.2.1 = true ∧ irV A B zs n ns m = (!allB ns 0 0 m && orB A (cmV A B zs n ns m).1 (cmV A B zs n ns m).2.1 (cmV A B zs n ns m).2.2.1, true) := by
  unfold irV cmV
  by_cases h : (plB A B zs n && fitB n m ns) = true
  ·rw [if_pos h, if_pos h]
   rw [Bool.and_eq_true] at h
   obtain ⟨hcv, hn4, hpt⟩ := plB_out h.1
   have hcb := cvB_bd hcv
   have hok := cmS_ok (A := A) (B := B) (ns := ns) (n := n) hcb.1 hcb.2.1 hpt n (Nat.le_refl _)
   by_cases h4 : (cmS A zs ns n).2.2.2 = true
   ·rw [if_pos h4]
    refine Or.inr ⟨h4, hcv, ?_, rfl⟩
    rcases hok with q | q
    ·exact q.2
    ·rw [q] at h4; simp at h4
   ·rw [if_neg h4]
    exact Or.inl ⟨by simpa using h4, rfl⟩
  ·rw [if_neg h, if_neg h]
   exact Or.inl ⟨rfl, rfl⟩
 obtain ⟨r1, r2, r3, r4, hr⟩ := pt4 (cmV A B zs n ns m)
 simp only [hr] at T1 hcase
 obtain ⟨⟨v1, v2⟩, hvv⟩ : ∃ v, irV A B zs n ns m = v := ⟨_, rfl⟩
 rw [hvv] at hcase ⊢
 have HC0 := Lib.hid hcase
 clear hcase hvv hr
 have tok1 := trivial
 have tok2 := trivial
 have tok3 := trivial
 have tok4 := trivial
 go_enter Try.func20, Try.ntmps20
 go_upto_region 1 with fail
 refine chk (fun W => Below w.heap.size w W ∧ W.heap[w.heap.size]? = some (.cells #[.int .i64 A, .int .i64 B] 29 (0, 0))) (by refine ⟨?_, ?_⟩ <;> (exact ck)) ?_
 rintro w10 ⟨hB10, qa⟩
 obtain ⟨qg, qh, qp, qz⟩ := bk2 qa
 replace qa := Lib.hid qa
 go_upto_region 2 with (first | (have _t := tok1; go_at_call 35; (with_reducible refine ((T1 _ bel)).mono ?_); rintro e w1 ⟨rfl, hb1⟩; clear tok1 _t; have hz1 := hb1.size; (try simp only [sA, sB, sC, sD] at hz1)))
 have qb := (hb1.block (w.heap.size) (blk_lt' qa.out)).trans qa.out
 clear qg qh qp qa
 obtain ⟨qi, qj, qq, xa⟩ := bk2 qb
 replace qb := Lib.hid qb
 have hB1 : Below w.heap.size w w1 := below_via hb1 (by assumption) (by go_size)
 clear T1
 replace qb := qb.out
 refine chk (fun W => Below w.heap.size w W ∧ W.heap[w.heap.size]? = some (.cells #[.int .i64 A, .int .i64 B] 29 (0, 0)) ∧ W.heap[w1.heap.size]? = some (.cells #[.int .i64 r1, .int .i64 r2, .int .i64 r3] 45 (0, 0))) (by refine ⟨?_, ?_, ?_⟩ <;> (exact ck)) ?_
 clear qi qj qq qb
 clear hB1
 rintro w2 ⟨hB2, qc, qd⟩
 obtain ⟨qk, ql, qr, xb⟩ := bk2 qc
 replace qc := Lib.hid qc
 obtain ⟨qm, qn, qo, qt, xc⟩ := bk3 qd
 replace qd := Lib.hid qd
 generalize w1.heap.size = gp at *
 try clear hb1
 rcases HC0.out with ⟨rfl, hv⟩ | ⟨rfl, hcv, hpt, hv⟩
 ·obtain ⟨rfl, rfl⟩ : v1 = false ∧ v2 = false := by simpa using hv
  clear hv HC0
  go_wp2_with fail
  go_ret2
  exact ⟨rfl, hB2⟩
 ·obtain ⟨rfl, rfl⟩ : v1 = (!allB ns 0 0 m && orB A r1 r2 r3) ∧ v2 = true := by simpa using hv
  have hcb := cvB_bd hcv
  have T2 := fun W : World => Lib.hid (ptOrder_any A B r1 r2 r3 W hcb.1 hcb.2.1 hpt)
  obtain ⟨⟨o1, o2⟩, hov⟩ : ∃ r, orV A r1 r2 r3 = r := ⟨_, rfl⟩
  have hob : orB A r1 r2 r3 = o2 := by unfold orB; rw [hov]
  rw [hov] at T2
  simp only at T2
  obtain ⟨z, hz⟩ : ∃ z, allB ns 0 0 m = z := ⟨_, rfl⟩
  rw [hz] at TZ
  have HO := Lib.hid hob
  have HZ := Lib.hid hz
  clear hv HC0 hcv hpt hcb hov hob hz
  go_upto_region 4 with fail
  go_upto_region 5 with (first | (have _t := tok3; go_at_call 36; (with_reducible refine ((T2 _).out).mono ?_); rintro e w3 ⟨rfl, hb3⟩; clear tok3 _t; have hz3 := hb3.size; (try simp only [sA, sB, sC, sD] at hz3)))
  have qe := (hb3.block (w.heap.size) (blk_lt' qc.out)).trans qc.out
  clear qk ql qr qc
  obtain ⟨qu, qv, xd, xe⟩ := bk2 qe
  replace qe := Lib.hid qe
  have qf := (hb3.block (gp) (blk_lt' qd.out)).trans qd.out
  clear qm qn qo qt qd
  obtain ⟨qw, qx, qy, xf, xg⟩ := bk3 qf
  replace qf := Lib.hid qf
  have hB3 : Below w.heap.size w w3 := below_via hb3 (by assumption) (by go_size)
  cases o2
  ·go_wp2_with fail
   go_ret2
   exact ⟨by simp [HO.out, HZ.out], hB3⟩
  ·go_wp2_with (first | (go_at_call 34; (with_reducible refine ((TZ _ bel).out).mono ?_); rintro e w' ⟨rfl, rfl⟩))
   go_ret2
   exact ⟨by simp [HO.out, HZ.out], hB3⟩
end
end Go.Proofs.Ytbnglnbcfabmgaa
