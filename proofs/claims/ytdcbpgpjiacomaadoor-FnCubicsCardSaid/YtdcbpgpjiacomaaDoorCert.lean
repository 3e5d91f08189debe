/- Certificates: contracts of both sides. -/
import Derived.Test.YtdcbpgpjiacomaaDoorPt
import Derived.Test.YtdcbpgpjiacomaaDoorPts
import Derived.Test.YtdcbpgpjiacomaaDoorFrac
namespace Go.Proofs.YtdcbpgpjiacomaaDoor
open Go.RowKit
set_option linter.unusedVariables false
set_option maxHeartbeats 1000000
set_option maxRecDepth 20000
set_option linter.unusedSimpArgs false
attribute [local go_sem] openAt openUpon
def ptAt (A B : Int) (zs : List Int) (j : Nat) : Bool := ptB A B (zs[j * 3]?.getD 0) (zs[j * 3 + 1]?.getD 0) (zs[j * 3 + 2]?.getD 0)
def ptsB (A B : Int) (zs : List Int) (n : Nat) : Bool := (List.range n).all (ptAt A B zs)
theorem ptsB_no {A B : Int} {zs : List Int} {n k : Nat} (hk : k < n) (h : ptAt A B zs k = false) : ptsB A B zs n = false := by
  unfold ptsB
  rw [List.all_eq_false]
  exact ⟨k, by simp [hk], by simp [h]⟩
theorem ptsB_yes {A B : Int} {zs : List Int} {n : Nat} (h : ∀ j, j < n → ptAt A B zs j = true) : ptsB A B zs n = true := by
  unfold ptsB
  rw [List.all_eq_true]
  intro j hj
  exact h j (by simpa using hj)
def plB (A B : Int) (zs : List Int) (n : Nat) : Bool := cvB A B && (inB n 1 4 && ptsB A B zs n)
def HpRel (w : World) (A B : Int) (zs : List Int) (n : Nat) (iv : Value) (wr : World) : Prop := ∃ k : Nat, iv = .int .i64 k ∧ k ≤ n ∧ (∀ j, j < k → (cvB A B && ptAt A B zs j) = true) ∧ wr.cell? ⟨w.heap.size, 0, none⟩ = some (.int .i64 A) ∧ wr.cell? ⟨w.heap.size, 1, none⟩ = some (.int .i64 B) ∧ w.heap.size < wr.heap.size ∧ Below w.heap.size w wr
theorem hpList_any (A B : Int) (a : Option Addr) (n c : Nat) (zs : List Int) (w : World) (h : Px w a n c zs) : Calls Tryd.prog 78 #[.agg #[.int .i64 A, .int .i64 B], .slice a n c] w fun e w' => e = .returned (.bool (plB A B zs n)) ∧ Below w.heap.size w w' := by
  have hnm := h.cap
  have hnm2 := h.max
  unfold maxLen at hnm2
  have T2 := fun W : World => Lib.hid (ecGood_any A B W)
  have T1 := T2
  have tok1 : True := trivial
  have tok2 : True := trivial
  go_enter Tryd.func78, Tryd.ntmps78
  go_wp2_with fail
  go_loopw [9] (fun iv wr => HpRel w A B zs n iv wr) (fun iv _ => (n - intOf iv).toNat)
  case atStart => exact ⟨0, rfl, by omega, fun j hj => by omega, by simp [go_sem], by simp [go_sem], by simp, by repeat' first | (with_reducible first | apply zRf | assumption | apply zDn | apply zDr | apply zAl | apply zSt | refine zVi (by assumption) ?_ ?_) | go_size⟩
  case round =>
    obtain ⟨k, rfl, hk, hal, kA, kB, hsz, hbw⟩ := hrel
    have HAL := Lib.hid hal
    clear hal
    by_cases h0 : k < n
    · obtain ⟨b, off, rfl, hb, hcs⟩ := h.at (by omega)
      have hpt := Lib.hid (show ptAt A B zs k = ptB A B (zs[k * 3]?.getD 0) (zs[k * 3 + 1]?.getD 0) (zs[k * 3 + 2]?.getD 0) from rfl)
      have c0 := (hbw.cell (p := ⟨b, off + k * 3, none⟩) hb).trans (hcs (k * 3) (by omega))
      have c1 := (hbw.cell (p := ⟨b, off + k * 3 + 1, none⟩) hb).trans (hcs (k * 3 + 1) (by omega))
      have c2 := (hbw.cell (p := ⟨b, off + k * 3 + 2, none⟩) hb).trans (hcs (k * 3 + 2) (by omega))
      have hk2 : (k : Int) < (n : Int) := by omega
      clear hcs T1
      generalize zs[k * 3]?.getD 0 = x at *
      generalize zs[k * 3 + 1]?.getD 0 = y at *
      generalize zs[k * 3 + 2]?.getD 0 = z at *
      have T1 := fun W : World => Lib.hid (IsPointOf_any A B x y z W)
      rw [← hpt.out] at T1
      cases hv : (cvB A B && ptAt A B zs k)
      · rw [hv] at T1
        have HV := Lib.hid (show plB A B zs n = false by
          unfold plB
          cases hc : cvB A B
          · rfl
          · rw [hc, Bool.true_and] at hv
            rw [ptsB_no h0 hv]; simp)
        clear hv
        go_wp2_with (first | (have _t := tok1; go_at_call 89; (with_reducible refine ((T1 _).out).mono ?_); rintro e w1 ⟨rfl, hb1⟩; clear tok1 _t; have hz1 := hb1.size; (try simp only [World.size_alloc, World.size_setCell, World.size_drew, World.size_drewN'] at hz1); (try (have kq := cellAt hb1 (w.heap.size) (by go_size); have k1_w_0_0 := kq 0; have k1_w_0_1 := kq 1; clear kq; have f1_w_0 := frozAt hb1 (w.heap.size) (by go_size); simp [go_sem, *] at k1_w_0_0 k1_w_0_1 f1_w_0)); (try have l1_w_0 : w.heap.size < w1.heap.size := by omega)) | (have _t := tok2; go_at_call 90; (with_reducible refine ((T2 _).out).mono ?_); rintro e w2 ⟨rfl, hb2⟩; clear tok2 _t; have hz2 := hb2.size; (try simp only [World.size_alloc, World.size_setCell, World.size_drew, World.size_drewN'] at hz2); (try (have kq := cellAt hb2 (w.heap.size) (by go_size); have k2_w_0_0 := kq 0; have k2_w_0_1 := kq 1; clear kq; have f2_w_0 := frozAt hb2 (w.heap.size) (by go_size); simp [go_sem, *] at k2_w_0_0 k2_w_0_1 f2_w_0)); (try have l2_w_0 : w.heap.size < w2.heap.size := by omega); (try clear k1_w_0_0 k1_w_0_1 f1_w_0); (try clear l1_w_0)) | (go_at_call 44; refine (l1In_any _ _ _ _).mono ?_; rintro e w' ⟨rfl, rfl⟩))
        go_ret
        refine ⟨ret_bool HV.out.symm, ?_⟩
        repeat' first | (with_reducible first | apply zRf | assumption | apply zDn | apply zDr | apply zAl | apply zSt | refine zVi (by assumption) ?_ ?_) | go_size
      · rw [hv] at T1
        have HV := Lib.hid hv
        clear hv
        go_wp2_with (first | (have _t := tok1; go_at_call 89; (with_reducible refine ((T1 _).out).mono ?_); rintro e w1 ⟨rfl, hb1⟩; clear tok1 _t; have hz1 := hb1.size; (try simp only [World.size_alloc, World.size_setCell, World.size_drew, World.size_drewN'] at hz1); (try (have kq := cellAt hb1 (w.heap.size) (by go_size); have k1_w_0_0 := kq 0; have k1_w_0_1 := kq 1; clear kq; have f1_w_0 := frozAt hb1 (w.heap.size) (by go_size); simp [go_sem, *] at k1_w_0_0 k1_w_0_1 f1_w_0)); (try have l1_w_0 : w.heap.size < w1.heap.size := by omega)) | (have _t := tok2; go_at_call 90; (with_reducible refine ((T2 _).out).mono ?_); rintro e w2 ⟨rfl, hb2⟩; clear tok2 _t; have hz2 := hb2.size; (try simp only [World.size_alloc, World.size_setCell, World.size_drew, World.size_drewN'] at hz2); (try (have kq := cellAt hb2 (w.heap.size) (by go_size); have k2_w_0_0 := kq 0; have k2_w_0_1 := kq 1; clear kq; have f2_w_0 := frozAt hb2 (w.heap.size) (by go_size); simp [go_sem, *] at k2_w_0_0 k2_w_0_1 f2_w_0)); (try have l2_w_0 : w.heap.size < w2.heap.size := by omega); (try clear k1_w_0_0 k1_w_0_1 f1_w_0); (try clear l1_w_0)) | (go_at_call 44; refine (l1In_any _ _ _ _).mono ?_; rintro e w' ⟨rfl, rfl⟩))
        go_roundw
        case rel => exact ⟨k + 1, by go_num, by omega, fun j hj => by
          by_cases e : j = k
          · subst e; exact HV.out
          · exact HAL.out j (by omega), by assumption, by assumption, by omega, by repeat' first | (with_reducible first | apply zRf | assumption | apply zDn | apply zDr | apply zAl | apply zSt | refine zVi (by assumption) ?_ ?_) | go_size⟩
        case measure => simp [intOf]; omega
    · obtain rfl : k = n := by omega
      have HV := Lib.hid (show plB A B zs k = (cvB A B && inB k 1 4) by
        unfold plB
        cases hc : cvB A B
        · rfl
        · rw [ptsB_yes (n := k) fun j hj => by have := HAL.out j hj; rwa [hc, Bool.true_and] at this]; simp)
      cases hc : cvB A B
      · rw [hc] at T2 HV
        clear hc
        go_wp2_with (first | (have _t := tok1; go_at_call 89; (with_reducible refine ((T1 _).out).mono ?_); rintro e w1 ⟨rfl, hb1⟩; clear tok1 _t; have hz1 := hb1.size; (try simp only [World.size_alloc, World.size_setCell, World.size_drew, World.size_drewN'] at hz1); (try (have kq := cellAt hb1 (w.heap.size) (by go_size); have k1_w_0_0 := kq 0; have k1_w_0_1 := kq 1; clear kq; have f1_w_0 := frozAt hb1 (w.heap.size) (by go_size); simp [go_sem, *] at k1_w_0_0 k1_w_0_1 f1_w_0)); (try have l1_w_0 : w.heap.size < w1.heap.size := by omega)) | (have _t := tok2; go_at_call 90; (with_reducible refine ((T2 _).out).mono ?_); rintro e w2 ⟨rfl, hb2⟩; clear tok2 _t; have hz2 := hb2.size; (try simp only [World.size_alloc, World.size_setCell, World.size_drew, World.size_drewN'] at hz2); (try (have kq := cellAt hb2 (w.heap.size) (by go_size); have k2_w_0_0 := kq 0; have k2_w_0_1 := kq 1; clear kq; have f2_w_0 := frozAt hb2 (w.heap.size) (by go_size); simp [go_sem, *] at k2_w_0_0 k2_w_0_1 f2_w_0)); (try have l2_w_0 : w.heap.size < w2.heap.size := by omega); (try clear k1_w_0_0 k1_w_0_1 f1_w_0); (try clear l1_w_0)) | (go_at_call 44; refine (l1In_any _ _ _ _).mono ?_; rintro e w' ⟨rfl, rfl⟩))
        go_ret
        refine ⟨ret_bool HV.out.symm, ?_⟩
        repeat' first | (with_reducible first | apply zRf | assumption | apply zDn | apply zDr | apply zAl | apply zSt | refine zVi (by assumption) ?_ ?_) | go_size
      · rw [hc] at T2 HV
        clear hc
        rw [Bool.true_and] at HV
        go_wp2_with (first | (have _t := tok1; go_at_call 89; (with_reducible refine ((T1 _).out).mono ?_); rintro e w1 ⟨rfl, hb1⟩; clear tok1 _t; have hz1 := hb1.size; (try simp only [World.size_alloc, World.size_setCell, World.size_drew, World.size_drewN'] at hz1); (try (have kq := cellAt hb1 (w.heap.size) (by go_size); have k1_w_0_0 := kq 0; have k1_w_0_1 := kq 1; clear kq; have f1_w_0 := frozAt hb1 (w.heap.size) (by go_size); simp [go_sem, *] at k1_w_0_0 k1_w_0_1 f1_w_0)); (try have l1_w_0 : w.heap.size < w1.heap.size := by omega)) | (have _t := tok2; go_at_call 90; (with_reducible refine ((T2 _).out).mono ?_); rintro e w2 ⟨rfl, hb2⟩; clear tok2 _t; have hz2 := hb2.size; (try simp only [World.size_alloc, World.size_setCell, World.size_drew, World.size_drewN'] at hz2); (try (have kq := cellAt hb2 (w.heap.size) (by go_size); have k2_w_0_0 := kq 0; have k2_w_0_1 := kq 1; clear kq; have f2_w_0 := frozAt hb2 (w.heap.size) (by go_size); simp [go_sem, *] at k2_w_0_0 k2_w_0_1 f2_w_0)); (try have l2_w_0 : w.heap.size < w2.heap.size := by omega); (try clear k1_w_0_0 k1_w_0_1 f1_w_0); (try clear l1_w_0)) | (go_at_call 44; refine (l1In_any _ _ _ _).mono ?_; rintro e w' ⟨rfl, rfl⟩))
        go_ret
        refine ⟨ret_bool HV.out.symm, ?_⟩
        repeat' first | (with_reducible first | apply zRf | assumption | apply zDn | apply zDr | apply zAl | apply zSt | refine zVi (by assumption) ?_ ?_) | go_size
theorem pointClosure_any (A B x y z : Int) (blk : Nat) (w : World) (kA : w.cell? ⟨blk, 0, none⟩ = some (.int .i64 A)) (kB : w.cell? ⟨blk, 1, none⟩ = some (.int .i64 B)) (hb : blk < w.heap.size) : Calls Tryd.prog 82 #[.agg #[.int .i64 x, .int .i64 y, .int .i64 z], .pointer (some ⟨blk, 0, none⟩)] w fun e w' => e = .returned (.bool (!(cvB A B && ptB A B x y z))) ∧ Below w.heap.size w w' := by
  have T1 := fun W : World => Lib.hid (isPoint_any A B x y z W)
  generalize (cvB A B && ptB A B x y z) = v at *
  have tok1 : True := trivial
  go_enter Tryd.func82, Tryd.ntmps82
  go_wp2_with (first | (have _t := tok1; go_at_call 83; (with_reducible refine ((T1 _).out).mono ?_); rintro e w1 ⟨rfl, hb1⟩; clear tok1 _t; have hz1 := hb1.size; (try simp only [World.size_alloc, World.size_setCell, World.size_drew, World.size_drewN'] at hz1); (try (have kq := cellAt hb1 (w.heap.size) (by go_size); have k1_w_0_0 := kq 0; have k1_w_0_1 := kq 1; have k1_w_0_2 := kq 2; clear kq; have f1_w_0 := frozAt hb1 (w.heap.size) (by go_size); simp [go_sem, *] at k1_w_0_0 k1_w_0_1 k1_w_0_2 f1_w_0)); (try have l1_w_0 : w.heap.size < w1.heap.size := by omega)))
  go_ret
  refine ⟨rfl, ?_⟩
  repeat' first | (with_reducible first | apply zRf | assumption | apply zDn | apply zDr | apply zAl | apply zSt | refine zVi (by assumption) ?_ ?_) | go_size
theorem indexPts_any (A B : Int) (a : Option Addr) (n c blk : Nat) (zs : List Int) (w : World) (h : Px w a n c zs) (kA : w.cell? ⟨blk, 0, none⟩ = some (.int .i64 A)) (kB : w.cell? ⟨blk, 1, none⟩ = some (.int .i64 B)) (hblk : blk < w.heap.size) :
    Calls Tryd.prog 92 #[.slice a n c, .func (.func 82) #[] #[.pointer (some ⟨blk, 0, none⟩)]] w fun e w' => ∃ r : Int, e = .returned (.int .i64 r) ∧ decide (0 ≤ r) = !((List.range n).all fun j => cvB A B && ptAt A B zs j) ∧ Below w.heap.size w w' := by
  have hnm := h.cap
  have hnm2 := h.max
  unfold maxLen at hnm2
  have tok1 : True := trivial
  go_enter Tryd.func92, Tryd.ntmps92
  go_wp2_with fail
  go_loopw [5, 8] (fun _ iv wr => ∃ k : Nat, iv = .int .i64 k ∧ k ≤ n ∧ (∀ j, j < k → (cvB A B && ptAt A B zs j) = true) ∧ Below w.heap.size w wr) (fun _ iv _ => (n - intOf iv).toNat)
  case atStart => exact ⟨0, rfl, by omega, fun j hj => by omega, Below.refl _ _⟩
  case round =>
    obtain ⟨k, rfl, hk, hal, hbw⟩ := hrel
    have HAL := Lib.hid hal
    clear hal
    have hsw := hbw.size
    by_cases h0 : k < n
    · obtain ⟨b, off, rfl, hb, hcs⟩ := h.at (by omega)
      have hpt := Lib.hid (show ptAt A B zs k = ptB A B (zs[k * 3]?.getD 0) (zs[k * 3 + 1]?.getD 0) (zs[k * 3 + 2]?.getD 0) from rfl)
      have c0 := (hbw.cell (p := ⟨b, off + k * 3, none⟩) hb).trans (hcs (k * 3) (by omega))
      have c1 := (hbw.cell (p := ⟨b, off + k * 3 + 1, none⟩) hb).trans (hcs (k * 3 + 1) (by omega))
      have c2 := (hbw.cell (p := ⟨b, off + k * 3 + 2, none⟩) hb).trans (hcs (k * 3 + 2) (by omega))
      have hk2 : (k : Int) < (n : Int) := by omega
      clear hcs
      generalize zs[k * 3]?.getD 0 = x at *
      generalize zs[k * 3 + 1]?.getD 0 = y at *
      generalize zs[k * 3 + 2]?.getD 0 = z at *
      have T1 := Lib.hid (pointClosure_any A B x y z blk wr ((hbw.cell (p := ⟨blk, 0, none⟩) hblk).trans kA) ((hbw.cell (p := ⟨blk, 1, none⟩) hblk).trans kB) (by omega))
      rw [← hpt.out] at T1
      cases hv : (cvB A B && ptAt A B zs k)
      · rw [hv] at T1
        have HV := Lib.hid hv
        clear hv
        go_wp2_with (go_at_call 82; refine (T1.out).mono ?_; rintro e w1 ⟨rfl, hb1⟩)
        go_ret
        refine ⟨_, rfl, ?_, ?_⟩
        · rw [show ((List.range n).all fun j => cvB A B && ptAt A B zs j) = false by
            rw [List.all_eq_false]; exact ⟨k, by simp [h0], by rw [HV.out]; simp⟩]
          simp
        · repeat' first | (with_reducible first | apply zRf | assumption | apply zDn | apply zDr | apply zAl | apply zSt | refine zVi (by assumption) ?_ ?_) | go_size
      · rw [hv] at T1
        have HV := Lib.hid hv
        clear hv
        go_wp2_with (go_at_call 82; refine (T1.out).mono ?_; rintro e w1 ⟨rfl, hb1⟩)
        go_roundw
        case rel => exact ⟨k + 1, by go_num, by omega, fun j hj => by
          by_cases e : j = k
          · subst e; exact HV.out
          · exact HAL.out j (by omega), by repeat' first | (with_reducible first | apply zRf | assumption | apply zDn | apply zDr | apply zAl | apply zSt | refine zVi (by assumption) ?_ ?_) | go_size⟩
        case measure => simp [intOf]; omega
    · obtain rfl : k = n := by omega
      go_wp2_with fail
      go_ret
      refine ⟨_, rfl, ?_, hbw⟩
      rw [show ((List.range k).all fun j => cvB A B && ptAt A B zs j) = true by
        rw [List.all_eq_true]; intro j hj; exact HAL.out j (by simpa using hj)]
      simp
theorem containsPts_any (A B : Int) (a : Option Addr) (n c blk : Nat) (zs : List Int) (w : World) (h : Px w a n c zs) (kA : w.cell? ⟨blk, 0, none⟩ = some (.int .i64 A)) (kB : w.cell? ⟨blk, 1, none⟩ = some (.int .i64 B)) (hblk : blk < w.heap.size) :
    Calls Tryd.prog 81 #[.slice a n c, .func (.func 82) #[] #[.pointer (some ⟨blk, 0, none⟩)]] w fun e w' => e = .returned (.bool (!((List.range n).all fun j => cvB A B && ptAt A B zs j))) ∧ Below w.heap.size w w' := by
  have tok1 : True := trivial
  go_enter Tryd.func81, Tryd.ntmps81
  go_wp2_with (first | (have _t := tok1; go_at_call 92; refine (indexPts_any _ _ _ _ _ _ _ _ h kA kB hblk).mono ?_; rintro e w1 ⟨r, rfl, hr, hb1⟩; clear tok1 _t; have hz1 := hb1.size; (try simp only [World.size_alloc, World.size_setCell, World.size_drew, World.size_drewN'] at hz1)))
  go_ret
  refine ⟨ret_bool rfl, ?_⟩
  repeat' first | (with_reducible first | apply zRf | assumption | apply zDn | apply zDr | apply zAl | apply zSt | refine zVi (by assumption) ?_ ?_) | go_size
end Go.Proofs.YtdcbpgpjiacomaaDoor
