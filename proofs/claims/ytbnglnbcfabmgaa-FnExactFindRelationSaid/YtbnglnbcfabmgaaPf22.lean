/- Lemmas and contracts of functions. No condition. -/
import Derived.Test.YtbnglnbcfabmgaaPf8
import Derived.Test.YtbnglnbcfabmgaaPf14
import Derived.Test.YtbnglnbcfabmgaaPf15
namespace Go.Proofs.Ytbnglnbcfabmgaa
section
open Go.RowKit
set_option linter.unusedVariables false
set_option maxHeartbeats 1000000
set_option maxRecDepth 20000
set_option linter.unusedSimpArgs false
attribute [local go_sem] openAt openUpon
def ptAt (A B : Int) (zs : List Int) (j : Nat) : Bool := ptB A B (zs[j * 3]?.getD 0) (zs[j * 3 + 1]?.getD 0) (zs[j * 3 + 2]?.getD 0)
def ptsB (A B : Int) (zs : List Int) (n : Nat) : Bool := (List.range n).all (ptAt A B zs)
theorem ptsB_no {A B : Int} {zs : List Int} {n k : Nat} (hk : k < n) (h : ptAt A B zs k = false) : ptsB A B zs n = false := by
 unfold ptsB
 rw [List.all_eq_false]
 exact ⟨k, by simp [hk], by simp [h]⟩
theorem ptsB_yes {A B : Int} {zs : List Int} {n : Nat} (h : ∀ j, j < n → ptAt A B zs j = true) : ptsB A B zs n = true := by
 unfold ptsB
 rw [List.all_eq_true]
 intro j hj
 exact h j (by simpa using hj)
def plB (A B : Int) (zs : List Int) (n : Nat) : Bool := cvB A B && (inB n 1 4 && ptsB A B zs n)
def HpRel (w : World) (A B : Int) (zs : List Int) (n : Nat) (iv : Value) (wr : World) : Prop := ∃ k : Nat, iv = .int .i64 k ∧ k ≤ n ∧ (∀ j, j < k → (cvB A B && ptAt A B zs j) = true) ∧ wr.cell? ⟨w.heap.size, 0, none⟩ = some (.int .i64 A) ∧ wr.cell? ⟨w.heap.size, 1, none⟩ = some (.int .i64 B) ∧ w.heap.size < wr.heap.size ∧ Below w.heap.size w wr
theorem hpList_any (A B : Int) (a : Option Addr) (n c : Nat) (zs : List Int) (w : World) (h : Px w a n c zs) : Calls Try.prog 33 #[.agg #[.int .i64 A, .int .i64 B], .slice a n c] w fun e w' => e = .returned (.bool (plB A B zs n)) ∧ Below w.heap.size w w' := by
 have hnm := h.cap
 have hnm2 := h.max
 unfold maxLen at hnm2
 have T2 := fun W : World => Lib.hid (ecGood_any A B W)
 have T1 := T2
 have tok1 := trivial
 have tok2 := trivial
 go_enter Try.func33, Try.ntmps33
 go_wp2_with fail
 go_loopw [9] (fun iv wr => HpRel w A B zs n iv wr) (fun iv _ => (n - intOf iv).toNat)
 case atStart => exact ⟨0, rfl, by omega, fun j hj => by omega, by simp [go_sem], by simp [go_sem], by simp, by exact bel⟩
 case round =>
  obtain ⟨k, rfl, hk, hal, kA, kB, hsz, hbw⟩ := hrel
  have HAL := Lib.hid hal
  clear hal
  by_cases h0 : k < n
  ·obtain ⟨b, off, rfl, hb, hcs⟩ := h.at (by omega)
   have hpt := Lib.hid (show ptAt A B zs k = ptB A B (zs[k * 3]?.getD 0) (zs[k * 3 + 1]?.getD 0) (zs[k * 3 + 2]?.getD 0) from rfl)
   have c0 := (hbw.cell (p := ⟨b, off + k * 3, none⟩) hb).trans (hcs (k * 3) (by omega))
   have c1 := (hbw.cell (p := ⟨b, off + k * 3 + 1, none⟩) hb).trans (hcs (k * 3 + 1) (by omega))
   have c2 := (hbw.cell (p := ⟨b, off + k * 3 + 2, none⟩) hb).trans (hcs (k * 3 + 2) (by omega))
   have hk2 : (k : Int) < (n : Int) := by omega
   clear hcs T1
   generalize zs[k * 3]?.getD 0 = x at *
   generalize zs[k * 3 + 1]?.getD 0 = y at *
   generalize zs[k * 3 + 2]?.getD 0 = z at *
   have T1 := fun W : World => Lib.hid (IsPointOf_any A B x y z W)
   rw [← hpt.out] at T1
   cases hv : (cvB A B && ptAt A B zs k)
   ·rw [hv] at T1
    have HV := Lib.hid (show plB A B zs n = false by
     unfold plB
     cases hc : cvB A B
     ·rfl
     ·rw [hc, Bool.true_and] at hv
      rw [ptsB_no h0 hv]; simp)
    clear hv
    go_wp2_with (first | (have _t := tok1; go_at_call 50; (with_reducible refine ((T1 _).out).mono ?_); rintro e w1 ⟨rfl, hb1⟩; clear tok1 _t; have hz1 := hb1.size; (try simp only [sA, sB, sC, sD] at hz1); (try (obtain ⟨kq, qc⟩ := cfAt hb1 (w.heap.size); have qa := kq 0; have qb := kq 1; clear kq; simp [go_sem, *] at qa qb qc)); (try have qf : w.heap.size < w1.heap.size := by omega)) | (have _t := tok2; go_at_call 51; (with_reducible refine ((T2 _).out).mono ?_); rintro e w2 ⟨rfl, hb2⟩; clear tok2 _t; have hz2 := hb2.size; (try simp only [sA, sB, sC, sD] at hz2); (try (obtain ⟨kq, qg⟩ := cfAt hb2 (w.heap.size); have qd := kq 0; have qe := kq 1; clear kq; simp [go_sem, *] at qd qe qg)); (try have qh : w.heap.size < w2.heap.size := by omega); (try clear qa qb qc); (try clear qf)) | (go_at_call 29; refine (l1In_any _ _ _ _).mono ?_; rintro e w' ⟨rfl, rfl⟩))
    go_ret
    refine ⟨ret_bool HV.out.symm, ?_⟩
    exact bel
   ·rw [hv] at T1
    have HV := Lib.hid hv
    clear hv
    go_wp2_with (first | (have _t := tok1; go_at_call 50; (with_reducible refine ((T1 _).out).mono ?_); rintro e w1 ⟨rfl, hb1⟩; clear tok1 _t; have hz1 := hb1.size; (try simp only [sA, sB, sC, sD] at hz1); (try (obtain ⟨kq, qc⟩ := cfAt hb1 (w.heap.size); have qa := kq 0; have qb := kq 1; clear kq; simp [go_sem, *] at qa qb qc)); (try have qf : w.heap.size < w1.heap.size := by omega)) | (have _t := tok2; go_at_call 51; (with_reducible refine ((T2 _).out).mono ?_); rintro e w2 ⟨rfl, hb2⟩; clear tok2 _t; have hz2 := hb2.size; (try simp only [sA, sB, sC, sD] at hz2); (try (obtain ⟨kq, qg⟩ := cfAt hb2 (w.heap.size); have qd := kq 0; have qe := kq 1; clear kq; simp [go_sem, *] at qd qe qg)); (try have qh : w.heap.size < w2.heap.size := by omega); (try clear qa qb qc); (try clear qf)) | (go_at_call 29; refine (l1In_any _ _ _ _).mono ?_; rintro e w' ⟨rfl, rfl⟩))
    go_roundw
    case rel => exact ⟨k + 1, by go_num, by omega, fun j hj => by
     by_cases e : j = k
     ·subst e; exact HV.out
     ·exact HAL.out j (by omega), by assumption, by assumption, by omega, by exact bel⟩
    case measure => simp [intOf]; omega
  ·obtain rfl : k = n := by omega
   have HV := Lib.hid (show plB A B zs k = (cvB A B && inB k 1 4) by
    unfold plB
    cases hc : cvB A B
    ·rfl
    ·rw [ptsB_yes (n := k) fun j hj => by have := HAL.out j hj; rwa [hc, Bool.true_and] at this]; simp)
   cases hc : cvB A B
   ·rw [hc] at T2 HV
    clear hc
    go_wp2_with (first | (have _t := tok1; go_at_call 50; (with_reducible refine ((T1 _).out).mono ?_); rintro e w1 ⟨rfl, hb1⟩; clear tok1 _t; have hz1 := hb1.size; (try simp only [sA, sB, sC, sD] at hz1); (try (obtain ⟨kq, qc⟩ := cfAt hb1 (w.heap.size); have qa := kq 0; have qb := kq 1; clear kq; simp [go_sem, *] at qa qb qc)); (try have qf : w.heap.size < w1.heap.size := by omega)) | (have _t := tok2; go_at_call 51; (with_reducible refine ((T2 _).out).mono ?_); rintro e w2 ⟨rfl, hb2⟩; clear tok2 _t; have hz2 := hb2.size; (try simp only [sA, sB, sC, sD] at hz2); (try (obtain ⟨kq, qg⟩ := cfAt hb2 (w.heap.size); have qd := kq 0; have qe := kq 1; clear kq; simp [go_sem, *] at qd qe qg)); (try have qh : w.heap.size < w2.heap.size := by omega); (try clear qa qb qc); (try clear qf)) | (go_at_call 29; refine (l1In_any _ _ _ _).mono ?_; rintro e w' ⟨rfl, rfl⟩))
    go_ret
    refine ⟨ret_bool HV.out.symm, ?_⟩
    exact bel
   ·rw [hc] at T2 HV
    clear hc
    rw [Bool.true_and] at HV
    go_wp2_with (first | (have _t := tok1; go_at_call 50; (with_reducible refine ((T1 _).out).mono ?_); rintro e w1 ⟨rfl, hb1⟩; clear tok1 _t; have hz1 := hb1.size; (try simp only [sA, sB, sC, sD] at hz1); (try (obtain ⟨kq, qc⟩ := cfAt hb1 (w.heap.size); have qa := kq 0; have qb := kq 1; clear kq; simp [go_sem, *] at qa qb qc)); (try have qf : w.heap.size < w1.heap.size := by omega)) | (have _t := tok2; go_at_call 51; (with_reducible refine ((T2 _).out).mono ?_); rintro e w2 ⟨rfl, hb2⟩; clear tok2 _t; have hz2 := hb2.size; (try simp only [sA, sB, sC, sD] at hz2); (try (obtain ⟨kq, qg⟩ := cfAt hb2 (w.heap.size); have qd := kq 0; have qe := kq 1; clear kq; simp [go_sem, *] at qd qe qg)); (try have qh : w.heap.size < w2.heap.size := by omega); (try clear qa qb qc); (try clear qf)) | (go_at_call 29; refine (l1In_any _ _ _ _).mono ?_; rintro e w' ⟨rfl, rfl⟩))
    go_ret
    refine ⟨ret_bool HV.out.symm, ?_⟩
    exact bel
theorem pointClosure_any (A B x y z : Int) (blk : Nat) (w : World) (kA : w.cell? ⟨blk, 0, none⟩ = some (.int .i64 A)) (kB : w.cell? ⟨blk, 1, none⟩ = some (.int .i64 B)) (hb : blk < w.heap.size) : Calls Try.prog 39 #[.agg #[.int .i64 x, .int .i64 y, .int .i64 z], .pointer (some ⟨blk, 0, none⟩)] w fun e w' => e = .returned (.bool (!(cvB A B && ptB A B x y z))) ∧ Below w.heap.size w w' := by
 have T1 := fun W : World => Lib.hid (isPoint_any A B x y z W)
 generalize (cvB A B && ptB A B x y z) = v at *
 have tok1 := trivial
 go_enter Try.func39, Try.ntmps39
 go_wp2_with (first | (have _t := tok1; go_at_call 40; (with_reducible refine ((T1 _).out).mono ?_); rintro e w1 ⟨rfl, hb1⟩; clear tok1 _t; have hz1 := hb1.size; (try simp only [sA, sB, sC, sD] at hz1); (try (obtain ⟨kq, qd⟩ := cfAt hb1 (w.heap.size); have qa := kq 0; have qb := kq 1; have qc := kq 2; clear kq; simp [go_sem, *] at qa qb qc qd)); (try have qe : w.heap.size < w1.heap.size := by omega)))
 go_ret
 refine ⟨rfl, ?_⟩
 exact bel
theorem indexPts_any (A B : Int) (a : Option Addr) (n c blk : Nat) (zs : List Int) (w : World) (h : Px w a n c zs) (kA : w.cell? ⟨blk, 0, none⟩ = some (.int .i64 A)) (kB : w.cell? ⟨blk, 1, none⟩ = some (.int .i64 B)) (hblk : blk < w.heap.size) :
  Calls Try.prog 55 #[.slice a n c, .func (.func 39) #[] #[.pointer (some ⟨blk, 0, none⟩)]] w fun e w' => ∃ r : Int, e = .returned (.int .i64 r) ∧ decide (0 ≤ r) = !((List.range n).all fun j => cvB A B && ptAt A B zs j) ∧ Below w.heap.size w w' := by
 have hnm := h.cap
 have hnm2 := h.max
 unfold maxLen at hnm2
 have tok1 := trivial
 go_enter Try.func55, Try.ntmps55
 go_wp2_with fail
 go_loopw [5, 8] (fun _ iv wr => ∃ k : Nat, iv = .int .i64 k ∧ k ≤ n ∧ (∀ j, j < k → (cvB A B && ptAt A B zs j) = true) ∧ Below w.heap.size w wr) (fun _ iv _ => (n - intOf iv).toNat)
 case atStart => exact ⟨0, rfl, by omega, fun j hj => by omega, Below.refl _ _⟩
 case round =>
  obtain ⟨k, rfl, hk, hal, hbw⟩ := hrel
  have HAL := Lib.hid hal
  clear hal
  have hsw := hbw.size
  by_cases h0 : k < n
  ·obtain ⟨b, off, rfl, hb, hcs⟩ := h.at (by omega)
   have hpt := Lib.hid (show ptAt A B zs k = ptB A B (zs[k * 3]?.getD 0) (zs[k * 3 + 1]?.getD 0) (zs[k * 3 + 2]?.getD 0) from rfl)
   have c0 := (hbw.cell (p := ⟨b, off + k * 3, none⟩) hb).trans (hcs (k * 3) (by omega))
   have c1 := (hbw.cell (p := ⟨b, off + k * 3 + 1, none⟩) hb).trans (hcs (k * 3 + 1) (by omega))
   have c2 := (hbw.cell (p := ⟨b, off + k * 3 + 2, none⟩) hb).trans (hcs (k * 3 + 2) (by omega))
   have hk2 : (k : Int) < (n : Int) := by omega
   clear hcs
   generalize zs[k * 3]?.getD 0 = x at *
   generalize zs[k * 3 + 1]?.getD 0 = y at *
   generalize zs[k * 3 + 2]?.getD 0 = z at *
   have T1 := Lib.hid (pointClosure_any A B x y z blk wr ((hbw.cell (p := ⟨blk, 0, none⟩) hblk).trans kA) ((hbw.cell (p := ⟨blk, 1, none⟩) hblk).trans kB) (by omega))
   rw [← hpt.out] at T1
   cases hv : (cvB A B && ptAt A B zs k)
   ·rw [hv] at T1
    have HV := Lib.hid hv
    clear hv
    go_wp2_with (go_at_call 39; refine (T1.out).mono ?_; rintro e w1 ⟨rfl, hb1⟩)
    go_ret
    refine ⟨_, rfl, ?_, ?_⟩
    ·rw [show ((List.range n).all fun j => cvB A B && ptAt A B zs j) = false by
      rw [List.all_eq_false]; exact ⟨k, by simp [h0], by rw [HV.out]; simp⟩]
     simp
    ·exact bel
   ·rw [hv] at T1
    have HV := Lib.hid hv
    clear hv
    go_wp2_with (go_at_call 39; refine (T1.out).mono ?_; rintro e w1 ⟨rfl, hb1⟩)
    go_roundw
    case rel => exact ⟨k + 1, by go_num, by omega, fun j hj => by
     by_cases e : j = k
     ·subst e; exact HV.out
     ·exact HAL.out j (by omega), by exact bel⟩
    case measure => simp [intOf]; omega
  ·obtain rfl : k = n := by omega
   go_wp2_with fail
   go_ret
   refine ⟨_, rfl, ?_, hbw⟩
   rw [show ((List.range k).all fun j => cvB A B && ptAt A B zs j) = true by
    rw [List.all_eq_true]; intro j hj; exact HAL.out j (by simpa using hj)]
   simp
theorem containsPts_any (A B : Int) (a : Option Addr) (n c blk : Nat) (zs : List Int) (w : World) (h : Px w a n c zs) (kA : w.cell? ⟨blk, 0, none⟩ = some (.int .i64 A)) (kB : w.cell? ⟨blk, 1, none⟩ = some (.int .i64 B)) (hblk : blk < w.heap.size) :
  Calls Try.prog 38 #[.slice a n c, .func (.func 39) #[] #[.pointer (some ⟨blk, 0, none⟩)]] w fun e w' => e = .returned (.bool (!((List.range n).all fun j => cvB A B && ptAt A B zs j))) ∧ Below w.heap.size w w' := by
 have tok1 := trivial
 go_enter Try.func38, Try.ntmps38
 go_wp2_with (first | (have _t := tok1; go_at_call 55; refine (indexPts_any _ _ _ _ _ _ _ _ h kA kB hblk).mono ?_; rintro e w1 ⟨r, rfl, hr, hb1⟩; clear tok1 _t; have hz1 := hb1.size; (try simp only [sA, sB, sC, sD] at hz1)))
 go_ret
 refine ⟨ret_bool rfl, ?_⟩
 exact bel
end
section
open Go.RowKit
set_option linter.unusedVariables false
set_option maxHeartbeats 1000000
set_option maxRecDepth 20000
set_option linter.unusedSimpArgs false
attribute [local go_sem] openAt openUpon
theorem pointList_any (A B : Int) (a : Option Addr) (n c : Nat) (zs : List Int) (w : World) (h : Px w a n c zs) : Calls Try.prog 22 #[.agg #[.int .i64 A, .int .i64 B], .slice a n c] w fun e w' => e = .returned (.bool (plB A B zs n)) ∧ Below w.heap.size w w' := by
 have hnm := h.cap
 have hnm2 := h.max
 unfold maxLen at hnm2
 have T1 := fun W : World => Lib.hid (isCurve_any A B W)
 have T2 := fun W : World => Lib.hid (inside_any n 1 4 W)
 have T3 : ∀ W : World, Below w.heap.size w W → W.cell? ⟨w.heap.size, 0, none⟩ = some (.int .i64 A) → W.cell? ⟨w.heap.size, 1, none⟩ = some (.int .i64 B) → Calls Try.prog 38 #[.slice a n c, .func (.func 39) #[] #[.pointer (some ⟨w.heap.size, 0, none⟩)]] W fun e w' => e = .returned (.bool (!((List.range n).all fun j => cvB A B && ptAt A B zs j))) ∧ Below W.heap.size W w' := fun W hW kA kB => containsPts_any A B a n c w.heap.size zs W (h.below hW) kA kB (by
  rcases Nat.lt_or_ge w.heap.size W.heap.size with h' | h'
  ·exact h'
  ·simp [World.cell?, Array.getElem?_eq_none (by simpa using h')] at kA)
 cases h1 : cvB A B
 ·have HP := Lib.hid (show plB A B zs n = false by simp [plB, h1])
  rw [h1] at T1
  clear h1
  have tok1 := trivial
  have tok2 := trivial
  go_enter Try.func22, Try.ntmps22
  go_wp2_with (first | (have _t := tok1; go_at_call 37; (with_reducible refine ((T1 _).out).mono ?_); rintro e w1 ⟨rfl, hb1⟩; clear tok1 _t; have hz1 := hb1.size; (try simp only [sA, sB, sC, sD] at hz1); (try (obtain ⟨kq, qc⟩ := cfAt hb1 (w.heap.size); have qa := kq 0; have qb := kq 1; clear kq; simp [go_sem, *] at qa qb qc)); (try have qf : w.heap.size < w1.heap.size := by omega)) | (go_at_call 31; (with_reducible refine ((T2 _).out).mono ?_); rintro e w' ⟨rfl, rfl⟩) | (have _t := tok2; go_at_call 38; (with_reducible refine ((T3 _ bel (by assumption) (by assumption))).mono ?_); rintro e w2 ⟨rfl, hb2⟩; clear tok2 _t; have hz2 := hb2.size; (try simp only [sA, sB, sC, sD] at hz2); (try (obtain ⟨kq, qg⟩ := cfAt hb2 (w.heap.size); have qd := kq 0; have qe := kq 1; clear kq; simp [go_sem, *] at qd qe qg)); (try have qh : w.heap.size < w2.heap.size := by omega); (try clear qa qb qc); (try clear qf)))
  go_ret
  refine ⟨ret_bool HP.out.symm, ?_⟩
  exact bel
 ·cases h2 : inB n 1 4
  ·have HP := Lib.hid (show plB A B zs n = false by simp [plB, h2])
   rw [h1] at T1
   rw [h2] at T2
   clear h1 h2
   have tok1 := trivial
   have tok2 := trivial
   go_enter Try.func22, Try.ntmps22
   go_wp2_with (first | (have _t := tok1; go_at_call 37; (with_reducible refine ((T1 _).out).mono ?_); rintro e w1 ⟨rfl, hb1⟩; clear tok1 _t; have hz1 := hb1.size; (try simp only [sA, sB, sC, sD] at hz1); (try (obtain ⟨kq, qc⟩ := cfAt hb1 (w.heap.size); have qa := kq 0; have qb := kq 1; clear kq; simp [go_sem, *] at qa qb qc)); (try have qf : w.heap.size < w1.heap.size := by omega)) | (go_at_call 31; (with_reducible refine ((T2 _).out).mono ?_); rintro e w' ⟨rfl, rfl⟩) | (have _t := tok2; go_at_call 38; (with_reducible refine ((T3 _ bel (by assumption) (by assumption))).mono ?_); rintro e w2 ⟨rfl, hb2⟩; clear tok2 _t; have hz2 := hb2.size; (try simp only [sA, sB, sC, sD] at hz2); (try (obtain ⟨kq, qg⟩ := cfAt hb2 (w.heap.size); have qd := kq 0; have qe := kq 1; clear kq; simp [go_sem, *] at qd qe qg)); (try have qh : w.heap.size < w2.heap.size := by omega); (try clear qa qb qc); (try clear qf)))
   go_ret
   refine ⟨ret_bool HP.out.symm, ?_⟩
   exact bel
  ·have HP := Lib.hid (show plB A B zs n = !(!((List.range n).all fun j => cvB A B && ptAt A B zs j)) by simp [plB, h1, h2, ptsB])
   generalize (List.range n).all (fun j => cvB A B && ptAt A B zs j) = v at *
   rw [h1] at T1
   rw [h2] at T2
   clear h1 h2
   have tok1 := trivial
   have tok2 := trivial
   go_enter Try.func22, Try.ntmps22
   go_wp2_with (first | (have _t := tok1; go_at_call 37; (with_reducible refine ((T1 _).out).mono ?_); rintro e w1 ⟨rfl, hb1⟩; clear tok1 _t; have hz1 := hb1.size; (try simp only [sA, sB, sC, sD] at hz1); (try (obtain ⟨kq, qc⟩ := cfAt hb1 (w.heap.size); have qa := kq 0; have qb := kq 1; clear kq; simp [go_sem, *] at qa qb qc)); (try have qf : w.heap.size < w1.heap.size := by omega)) | (go_at_call 31; (with_reducible refine ((T2 _).out).mono ?_); rintro e w' ⟨rfl, rfl⟩) | (have _t := tok2; go_at_call 38; (with_reducible refine ((T3 _ bel (by assumption) (by assumption))).mono ?_); rintro e w2 ⟨rfl, hb2⟩; clear tok2 _t; have hz2 := hb2.size; (try simp only [sA, sB, sC, sD] at hz2); (try (obtain ⟨kq, qg⟩ := cfAt hb2 (w.heap.size); have qd := kq 0; have qe := kq 1; clear kq; simp [go_sem, *] at qd qe qg)); (try have qh : w.heap.size < w2.heap.size := by omega); (try clear qa qb qc); (try clear qf)))
   go_ret
   refine ⟨ret_bool (by rw [HP.out]; simp), ?_⟩
   exact bel
end
end Go.Proofs.Ytbnglnbcfabmgaa
