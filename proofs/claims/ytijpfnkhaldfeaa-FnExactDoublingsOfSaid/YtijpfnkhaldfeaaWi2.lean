/- Products and quotients of whole numbers: the program. -/
import Derived.Test.YtijpfnkhaldfeaaWi1
import Derived.Test.YtijpfnkhaldfeaaBg4
import Derived.IntWalk
namespace Go.Proofs.Ytijpfnkhaldfeaa
open Go.RowKit
set_option linter.unusedVariables false
set_option maxHeartbeats 1000000
set_option maxRecDepth 20000
set_option linter.unusedSimpArgs false
attribute [local go_sem] openAt openUpon
theorem divWhole_pos (a : Option Addr) (n c : Nat) (z d : Int) (w : World) (hs : Wx w false a n c z) (hl : n ≤ 100000) (hd : 1 ≤ d) (hd2 : d ≤ 100000000000000) :
    Calls Try.prog 53 #[.agg #[.bool false, .slice a n c], .int .i64 d] w (NewQ w z d) := by
  obtain ⟨i0, hi, hz0, hz1, hz2⟩ := info_parts infoInt
  have tok1 : True := trivial
  have tok2 : True := trivial
  go_enter Try.func53, Try.ntmps53
  go_wp2_with (first | (at_make; refine wpList_make_full _ rfl _ _ 24 rfl (w.heap.size + 2) 3 i0 (.int .i64 0) 1 Try.underlying24 hi hz0 hz1 .i64 .i64 _ _ n rfl rfl rfl rfl (by rw [hz2]; omega) (by unfold maxLen; omega) (by simp) ?_; intro W0 hm0 hg0; have hr0 := RowW.start hm0; have hb0 := made_below (B := w.heap.size) (a := w) (by repeat' first | (with_reducible first | apply zRf | assumption | apply zDn | apply zDr | apply zAl | apply zSt | refine zVi (by assumption) ?_ ?_) | go_size) hg0 (by simp; try omega); have hz0s := hg0.size; have e0 := fun o => World.cell?_of_block (a := ⟨w.heap.size, o, none⟩) (made_at hg0 (by simp; try omega)); have e1 := fun o => World.cell?_of_block (a := ⟨w.heap.size + 1, o, none⟩) (made_at hg0 (by simp; try omega)); have f0 := fun o => World.frozen?_of_block (a := ⟨w.heap.size, o, none⟩) (made_at hg0 (by simp; try omega)); have f1 := fun o => World.frozen?_of_block (a := ⟨w.heap.size + 1, o, none⟩) (made_at hg0 (by simp; try omega)); have kA := e0 0; have kB := e0 1; have kC := e1 0; have kD := e1 1; clear e0 e1 hm0 hg0; simp [go_sem] at kA kB kC kD f0 f1; simp only [World.size_alloc] at hr0 hz0s))
  have hnm : n ≤ maxLen := by unfold maxLen; omega
  have hln := Lib.hid hs.row.len
  have hng := Lib.hid hs.neg.symm
  go_loopw [7, 8] (fun rv iv wr => OvRel W0 (w.heap.size + 1 + 1) d (limbs (ab z)) n rv iv wr) (fun _ iv _ => (intOf iv + 1).toNat)
  case atStart => exact ⟨n, 0, List.replicate n 0, rfl, rfl, Nat.le_refl _, by omega, by omega, by simp, Dig.zeros n, by rw [List.drop_eq_nil_of_le (by have := hln.out; omega), List.drop_eq_nil_of_le (by simp)]; simp [val], hr0⟩
  case round =>
    obtain ⟨k, rest, qs, rfl, rfl, hk, hr1, hr2, hqn, hqd, hqv, hrow⟩ := hrel
    have kA1 := (hrow.only.cell (b := w.heap.size) (by omega) 0).trans kA
    have kB1 := (hrow.only.cell (b := w.heap.size) (by omega) 1).trans kB
    have HQ := Lib.hid hqv
    have HL := Lib.hid hqn
    by_cases h0 : 0 < k
    · obtain ⟨b, off, rfl, hb, hcs⟩ := hs.row.at (by omega)
      have hcell := (hrow.only.cell (b := b) (by omega) (off + (k - 1))).trans ((hb0.cell (p := ⟨b, off + (k - 1), none⟩) hb).trans (hcs (k - 1) (by omega)))
      have hdz := (limbs_dig (ab z)).getD (k - 1)
      have hg1 := hrow.cell (j := k - 1) (by omega)
      have hg2 := hrow.free (k - 1)
      have HS := Lib.hid (fun (y x : Int) (e : rest * 10000 + (limbs (ab z)).getD (k - 1) 0 = d * y + x) => div_step (a := limbs (ab z)) (q := qs) (n := d) (rest := rest) (x := x) (y := y) (i := k - 1) (by have := hln.out; omega) (by have := hln.out; have := HL.out; omega) (by rw [show k - 1 + 1 = k by omega]; exact HQ.out) e)
      rw [List.getD_eq_getElem?_getD] at hdz HS
      have hdd := div_digit hd ⟨hr1, hr2⟩ hdz
      have hmm := Int.emod_nonneg (rest * 10000 + (limbs (ab z))[k - 1]?.getD 0) (b := d) (by omega)
      have hml := Int.emod_lt_of_pos (rest * 10000 + (limbs (ab z))[k - 1]?.getD 0) (b := d) (by omega)
      have HE := Lib.hid (show rest * 10000 + (limbs (ab z))[k - 1]?.getD 0 = d * ((rest * 10000 + (limbs (ab z))[k - 1]?.getD 0) / d) + (rest * 10000 + (limbs (ab z))[k - 1]?.getD 0) % d by have := Int.emod_add_mul_ediv (rest * 10000 + (limbs (ab z))[k - 1]?.getD 0) d; omega)
      clear hcs hqv hqn
      go_wp2_with fail
      go_roundw
      case rel => exact ⟨k - 1, _, qs.set (k - 1) _, rfl, by congr 1; omega, by omega, hmm, hml, by simp [HL.out], hqd.set _ hdd, HS.out _ _ HE.out, hrow.set _ _⟩
      case measure => simp [intOf]; omega
    · obtain rfl : k = 0 := by omega
      have HA := Lib.hid (div_all hd hng.out ⟨hr1, hr2⟩ HQ.out)
      have T1 : ∀ W, Below wr.heap.size wr W → Calls Try.prog 65 #[.bool false, .slice (some ⟨w.heap.size + 1 + 1, 0, none⟩) n n] W (NewW W (z / d)) := fun W hW => by
        have := trimmed_any false _ n n qs W ((hrow.sx hqn hnm).below hW) (by omega) hqd
        rw [HA.out.1] at this
        exact this
      have hbw := hrow.below hb0 (by omega)
      have hsz := hrow.size
      have kC1 := (hrow.only.cell (b := w.heap.size + 1) (by omega) 0).trans kC
      have kD1 := (hrow.only.cell (b := w.heap.size + 1) (by omega) 1).trans kD
      have fC1 := fun o => (hrow.only.froz (b := w.heap.size + 1) (by omega) o).trans (f1 o)
      clear hqv hqn hrow
      go_wp2_with (first | (have _t := tok1; go_at_call 65; (with_reducible refine ((T1 _ (by repeat' first | (with_reducible first | apply zRf | assumption | apply zDn | apply zDr | apply zAl | apply zSt | refine zVi (by assumption) ?_ ?_) | go_size))).mono ?_); rintro e w1 ⟨b1, a1, n1, c1, rfl, hv1, hf1, hb1⟩; clear tok1 _t; have hz1 := hb1.size; (try simp only [World.size_alloc, World.size_setCell, World.size_drew, World.size_drewN'] at hz1); (try (have kq := cellAt hb1 (w.heap.size) (by go_size); have k1_w_0_0 := kq 0; have k1_w_0_1 := kq 1; clear kq; have f1_w_0 := frozAt hb1 (w.heap.size) (by go_size); simp [go_sem, *] at k1_w_0_0 k1_w_0_1 f1_w_0)); (try have l1_w_0 : w.heap.size < w1.heap.size := by omega); (try (have kq := cellAt hb1 (w.heap.size + 1) (by go_size); have k1_w_1_0 := kq 0; have k1_w_1_1 := kq 1; clear kq; have f1_w_1 := frozAt hb1 (w.heap.size + 1) (by go_size); simp [go_sem, *] at k1_w_1_0 k1_w_1_1 f1_w_1)); (try have l1_w_1 : w.heap.size + 1 < w1.heap.size := by omega)))
      refine bodyPost_ret (v := .tuple #[.agg #[.bool b1, .slice a1 n1 c1], .int .i64 rest]) (by simp [results, Try.results53, go_sem, *]) rfl ⟨_, _, _, _, by rw [← HA.out.2], ⟨hv1.neg, ?_⟩, ?_, ?_⟩
      · have hr1 := hv1.row
        (repeat' first | exact hr1 | refine Sx.set ?_ ?_ _ _ | refine Sx.alloc ?_ _ | refine Sx.drew ?_ | (intro A e; have := hf1 A e; (try simp only [World.size_alloc, World.size_setCell, World.size_drew, World.size_drewN'] at this); omega))
      · (intro A e; have := hf1 A e; (try simp only [World.size_alloc, World.size_setCell, World.size_drew, World.size_drewN'] at this); omega)
      repeat' first | (with_reducible first | apply zRf | assumption | apply zDn | apply zDr | apply zAl | apply zSt | refine zVi (by assumption) ?_ ?_) | go_size
theorem afarW1 {w : World} {b1 o1 b2 o2 : Nat} {x v : Value} (h : w.cell? ⟨b2, o2, none⟩ = some v) (hne : b1 ≠ b2) : (w.setCell ⟨b1, o1, none⟩ x).cell? ⟨b2, o2, none⟩ = some v := by
  rw [← h]
  exact World.cell?_of_block (a := ⟨b2, o2, none⟩) (Below.heap_setCell w ⟨b1, o1, none⟩ x b2 (fun e => hne e.symm))
theorem afarW2 {w : World} {b1 o1 o1' b2 o2 : Nat} {x y v : Value} (h : w.cell? ⟨b2, o2, none⟩ = some v) (hne : b1 ≠ b2) : ((w.setCell ⟨b1, o1, none⟩ x).setCell ⟨b1, o1', none⟩ y).cell? ⟨b2, o2, none⟩ = some v := afarW1 (afarW1 h hne) hne
theorem divWhole_neg (a : Option Addr) (n c : Nat) (z d : Int) (w : World) (hs : Wx w true a n c z) (hl : n ≤ 9000) (hd : 1 ≤ d) (hd2 : d ≤ 100000000000000) :
    Calls Try.prog 53 #[.agg #[.bool true, .slice a n c], .int .i64 d] w (NewQ w z d) := by
  obtain ⟨i0, hi, hz0, hz1, hz2⟩ := info_parts infoInt
  have tok1 : True := trivial
  have tok2 : True := trivial
  have tok3 : True := trivial
  go_enter Try.func53, Try.ntmps53
  go_wp2_with (first | (at_make; refine wpList_make_full _ rfl _ _ 24 rfl (w.heap.size + 2) 3 i0 (.int .i64 0) 1 Try.underlying24 hi hz0 hz1 .i64 .i64 _ _ n rfl rfl rfl rfl (by rw [hz2]; omega) (by unfold maxLen; omega) (by simp) ?_; intro W0 hm0 hg0; have hr0 := RowW.start hm0; have hb0 := made_below (B := w.heap.size) (a := w) (by repeat' first | (with_reducible first | apply zRf | assumption | apply zDn | apply zDr | apply zAl | apply zSt | refine zVi (by assumption) ?_ ?_) | go_size) hg0 (by simp; try omega); have hz0s := hg0.size; have e0 := fun o => World.cell?_of_block (a := ⟨w.heap.size, o, none⟩) (made_at hg0 (by simp; try omega)); have e1 := fun o => World.cell?_of_block (a := ⟨w.heap.size + 1, o, none⟩) (made_at hg0 (by simp; try omega)); have f0 := fun o => World.frozen?_of_block (a := ⟨w.heap.size, o, none⟩) (made_at hg0 (by simp; try omega)); have f1 := fun o => World.frozen?_of_block (a := ⟨w.heap.size + 1, o, none⟩) (made_at hg0 (by simp; try omega)); have kA := e0 0; have kB := e0 1; have kC := e1 0; have kD := e1 1; clear e0 e1 hm0 hg0; simp [go_sem] at kA kB kC kD f0 f1; simp only [World.size_alloc] at hr0 hz0s))
  have hnm : n ≤ maxLen := by unfold maxLen; omega
  have hln := Lib.hid hs.row.len
  have hng := Lib.hid hs.neg.symm
  have hneg : z < 0 := by have := hs.neg; simpa [ngB] using this.symm
  go_loopw [7, 8] (fun rv iv wr => OvRel W0 (w.heap.size + 1 + 1) d (limbs (ab z)) n rv iv wr) (fun _ iv _ => (intOf iv + 1).toNat)
  case atStart => exact ⟨n, 0, List.replicate n 0, rfl, rfl, Nat.le_refl _, by omega, by omega, by simp, Dig.zeros n, by rw [List.drop_eq_nil_of_le (by have := hln.out; omega), List.drop_eq_nil_of_le (by simp)]; simp [val], hr0⟩
  case round =>
    obtain ⟨k, rest, qs, rfl, rfl, hk, hr1, hr2, hqn, hqd, hqv, hrow⟩ := hrel
    have kA1 := (hrow.only.cell (b := w.heap.size) (by omega) 0).trans kA
    have kB1 := (hrow.only.cell (b := w.heap.size) (by omega) 1).trans kB
    have HQ := Lib.hid hqv
    have HL := Lib.hid hqn
    by_cases h0 : 0 < k
    · obtain ⟨b, off, rfl, hb, hcs⟩ := hs.row.at (by omega)
      have hcell := (hrow.only.cell (b := b) (by omega) (off + (k - 1))).trans ((hb0.cell (p := ⟨b, off + (k - 1), none⟩) hb).trans (hcs (k - 1) (by omega)))
      have hdz := (limbs_dig (ab z)).getD (k - 1)
      have hg1 := hrow.cell (j := k - 1) (by omega)
      have hg2 := hrow.free (k - 1)
      have HS := Lib.hid (fun (y x : Int) (e : rest * 10000 + (limbs (ab z)).getD (k - 1) 0 = d * y + x) => div_step (a := limbs (ab z)) (q := qs) (n := d) (rest := rest) (x := x) (y := y) (i := k - 1) (by have := hln.out; omega) (by have := hln.out; have := HL.out; omega) (by rw [show k - 1 + 1 = k by omega]; exact HQ.out) e)
      rw [List.getD_eq_getElem?_getD] at hdz HS
      have hdd := div_digit hd ⟨hr1, hr2⟩ hdz
      have hmm := Int.emod_nonneg (rest * 10000 + (limbs (ab z))[k - 1]?.getD 0) (b := d) (by omega)
      have hml := Int.emod_lt_of_pos (rest * 10000 + (limbs (ab z))[k - 1]?.getD 0) (b := d) (by omega)
      have HE := Lib.hid (show rest * 10000 + (limbs (ab z))[k - 1]?.getD 0 = d * ((rest * 10000 + (limbs (ab z))[k - 1]?.getD 0) / d) + (rest * 10000 + (limbs (ab z))[k - 1]?.getD 0) % d by have := Int.emod_add_mul_ediv (rest * 10000 + (limbs (ab z))[k - 1]?.getD 0) d; omega)
      clear hcs hqv hqn
      go_wp2_with fail
      go_roundw
      case rel => exact ⟨k - 1, _, qs.set (k - 1) _, rfl, by congr 1; omega, by omega, hmm, hml, by simp [HL.out], hqd.set _ hdd, HS.out _ _ HE.out, hrow.set _ _⟩
      case measure => simp [intOf]; omega
    · obtain rfl : k = 0 := by omega
      have HA := Lib.hid (show ab z = d * val qs + rest by have := HQ.out; rw [List.drop_zero, List.drop_zero, val_ab'] at this; exact this)
      have hbw := hrow.below hb0 (by omega)
      have hsz := hrow.size
      have kC1 := (hrow.only.cell (b := w.heap.size + 1) (by omega) 0).trans kC
      have kD1 := (hrow.only.cell (b := w.heap.size + 1) (by omega) 1).trans kD
      have fC1 := fun o => (hrow.only.froz (b := w.heap.size + 1) (by omega) o).trans (f1 o)
      have hlz : val qs < 10000 ^ n := by have := val_lt hqd; rwa [HL.out] at this
      have hlq : ln (mkW true (val qs)) ≤ n := by rw [ln_le, mkW_ab (val_nonneg hqd)]; exact hlz
      have T0 : ∀ W, Below wr.heap.size wr W → Calls Try.prog 65 #[.bool true, .slice (some ⟨w.heap.size + 1 + 1, 0, none⟩) n n] W (NewW W (mkW true (val qs))) := fun W hW => trimmed_any true _ n n qs W ((hrow.sx hqn hnm).below hW) (by omega) hqd
      have hqn0 := val_nonneg hqd
      have hngz : ngB z = true := by simp [ngB, hneg]
      by_cases hrest : 0 < rest
      · have hdn := div_neg (a := z) (n := d) (q := val qs) (r := rest) (by omega) HA.out ⟨hrest, hr2⟩ hneg
        rw [hngz] at hdn
        have HD := Lib.hid hdn
        have TS : ∀ (W : World) (b1 : Bool) (a1 : Option Addr) (n1 c1 : Nat) {b3 : Bool} {a3 : Option Addr} {n3 c3 : Nat}, Wx W b1 a1 n1 c1 (mkW true (val qs)) → Wx W b3 a3 n3 c3 (-1) → Calls Try.prog 66 #[.agg #[.bool b1, .slice a1 n1 c1], .agg #[.bool b3, .slice a3 n3 c3]] W (NewW W (z / d)) := fun W b1 a1 n1 c1 b3 a3 n3 c3 g1 g2 => by
          exact addWholes_eq g1 g2 (by have := HD.out.1; omega) (by omega) (by have := ln_small (a := -1) (by omega) (by omega); omega)
        have T1 := T0
        clear hqv hqn hrow hlz hlq hqn0 hdn T0
        generalize mkW true (val qs) = q at *
        go_wp2_with (first | (have _t := tok1; go_at_call 65; (with_reducible refine ((T1 _ (by repeat' first | (with_reducible first | apply zRf | assumption | apply zDn | apply zDr | apply zAl | apply zSt | refine zVi (by assumption) ?_ ?_) | go_size))).mono ?_); rintro e w1 ⟨b1, a1, n1, c1, rfl, hv1, hf1, hb1⟩; clear tok1 _t; have hz1 := hb1.size; (try simp only [World.size_alloc, World.size_setCell, World.size_drew, World.size_drewN'] at hz1); (try (have kq := cellAt hb1 (w.heap.size) (by go_size); have k1_w_0_0 := kq 0; have k1_w_0_1 := kq 1; clear kq; have f1_w_0 := frozAt hb1 (w.heap.size) (by go_size); simp [go_sem, *] at k1_w_0_0 k1_w_0_1 f1_w_0)); (try have l1_w_0 : w.heap.size < w1.heap.size := by omega); (try (have kq := cellAt hb1 (w.heap.size + 1) (by go_size); have k1_w_1_0 := kq 0; have k1_w_1_1 := kq 1; clear kq; have f1_w_1 := frozAt hb1 (w.heap.size + 1) (by go_size); simp [go_sem, *] at k1_w_1_0 k1_w_1_1 f1_w_1)); (try have l1_w_1 : w.heap.size + 1 < w1.heap.size := by omega)))
        go_region_held3 (fun w' => w'.cell? ⟨w1.heap.size, 0, none⟩ = some (.bool b1) ∧ w'.cell? ⟨w1.heap.size, 1, none⟩ = some (.slice a1 n1 c1)) (first | go_keep | exact ⟨afarW2 (by assumption) (by omega), afarW2 (by assumption) (by omega)⟩) (first | (have _t := tok2; go_at_call 63; (with_reducible refine ((wholeOf_any (-1) _ (by omega) (by omega))).mono ?_); rintro e w2 ⟨b2, a2, n2, c2, rfl, hv2, hf2, hb2⟩; clear tok2 _t; have hz2 := hb2.size; (try simp only [World.size_alloc, World.size_setCell, World.size_drew, World.size_drewN'] at hz2); (try (have kq := cellAt hb2 (w.heap.size) (by go_size); have k2_w_0_0 := kq 0; have k2_w_0_1 := kq 1; clear kq; have f2_w_0 := frozAt hb2 (w.heap.size) (by go_size); simp [go_sem, *] at k2_w_0_0 k2_w_0_1 f2_w_0)); (try have l2_w_0 : w.heap.size < w2.heap.size := by omega); (try (have kq := cellAt hb2 (w.heap.size + 1) (by go_size); have k2_w_1_0 := kq 0; have k2_w_1_1 := kq 1; clear kq; have f2_w_1 := frozAt hb2 (w.heap.size + 1) (by go_size); simp [go_sem, *] at k2_w_1_0 k2_w_1_1 f2_w_1)); (try have l2_w_1 : w.heap.size + 1 < w2.heap.size := by omega); (try (have kq := cellAt hb2 (w1.heap.size) (by go_size); have k2_w1_0_0 := kq 0; have k2_w1_0_1 := kq 1; clear kq; have f2_w1_0 := frozAt hb2 (w1.heap.size) (by go_size); simp [go_sem, *] at k2_w1_0_0 k2_w1_0_1 f2_w1_0)); (try have l2_w1_0 : w1.heap.size < w2.heap.size := by omega); (try clear k1_w_0_0 k1_w_0_1 f1_w_0); (try clear l1_w_0); (try clear k1_w_1_0 k1_w_1_1 f1_w_1); (try clear l1_w_1)) | (have _t := tok3; go_at_call 66; (with_reducible refine ((TS _ _ _ _ _ (hv1.below (by repeat' first | (with_reducible first | apply zRf | assumption | apply zDn | apply zDr | apply zAl | apply zSt | refine zVi (by assumption) ?_ ?_) | go_size)) hv2)).mono ?_); rintro e w3 ⟨b7, a7, n7, c7, rfl, h7, f7, hb3⟩; clear tok3 _t; have hz3 := hb3.size; (try simp only [World.size_alloc, World.size_setCell, World.size_drew, World.size_drewN'] at hz3); (try (have kq := cellAt hb3 (w.heap.size) (by go_size); have k3_w_0_0 := kq 0; have k3_w_0_1 := kq 1; clear kq; have f3_w_0 := frozAt hb3 (w.heap.size) (by go_size); simp [go_sem, *] at k3_w_0_0 k3_w_0_1 f3_w_0)); (try have l3_w_0 : w.heap.size < w3.heap.size := by omega); (try (have kq := cellAt hb3 (w.heap.size + 1) (by go_size); have k3_w_1_0 := kq 0; have k3_w_1_1 := kq 1; clear kq; have f3_w_1 := frozAt hb3 (w.heap.size + 1) (by go_size); simp [go_sem, *] at k3_w_1_0 k3_w_1_1 f3_w_1)); (try have l3_w_1 : w.heap.size + 1 < w3.heap.size := by omega); (try (have kq := cellAt hb3 (w1.heap.size) (by go_size); have k3_w1_0_0 := kq 0; have k3_w1_0_1 := kq 1; clear kq; have f3_w1_0 := frozAt hb3 (w1.heap.size) (by go_size); simp [go_sem, *] at k3_w1_0_0 k3_w1_0_1 f3_w1_0)); (try have l3_w1_0 : w1.heap.size < w3.heap.size := by omega); (try clear k1_w_0_0 k1_w_0_1 f1_w_0); (try clear l1_w_0); (try clear k1_w_1_0 k1_w_1_1 f1_w_1); (try clear l1_w_1); (try clear k2_w_0_0 k2_w_0_1 f2_w_0); (try clear l2_w_0); (try clear k2_w_1_0 k2_w_1_1 f2_w_1); (try clear l2_w_1); (try clear k2_w1_0_0 k2_w1_0_1 f2_w1_0); (try clear l2_w1_0)))
        go_wp2_with fail
        have hwr : IntKind.i64.wrap (d - rest) = d - rest := IntWalk.i64_in _ (by omega)
        refine bodyPost_ret (v := .tuple #[.agg #[.bool b7, .slice a7 n7 c7], .int .i64 (d - rest)]) (by simp [results, Try.results53, go_sem, *]) rfl ⟨_, _, _, _, by rw [← HD.out.2], ⟨h7.neg, ?_⟩, ?_, ?_⟩
        · have hr7 := h7.row
          (repeat' first | exact hr7 | refine Sx.set ?_ ?_ _ _ | refine Sx.alloc ?_ _ | refine Sx.drew ?_ | (intro A e; have := f7 A e; (try simp only [World.size_alloc, World.size_setCell, World.size_drew, World.size_drewN'] at this); omega))
        · (intro A e; have := f7 A e; (try simp only [World.size_alloc, World.size_setCell, World.size_drew, World.size_drewN'] at this); omega)
        repeat' first | (with_reducible first | apply zRf | assumption | apply zDn | apply zDr | apply zAl | apply zSt | refine zVi (by assumption) ?_ ?_) | go_size
      · obtain rfl : rest = 0 := by omega
        have hdp := div_pos (a := z) (n := d) (q := val qs) (r := 0) (by omega) HA.out ⟨by omega, by omega⟩ (.inr rfl)
        rw [hngz] at hdp
        have HD := Lib.hid hdp
        have T1 : ∀ W, Below wr.heap.size wr W → Calls Try.prog 65 #[.bool true, .slice (some ⟨w.heap.size + 1 + 1, 0, none⟩) n n] W (NewW W (z / d)) := fun W hW => by
          have := T0 W hW
          rw [HD.out.1] at this
          exact this
        clear hqv hqn hrow hlz hlq hqn0 hdp T0
        go_wp2_with (first | (have _t := tok1; go_at_call 65; (with_reducible refine ((T1 _ (by repeat' first | (with_reducible first | apply zRf | assumption | apply zDn | apply zDr | apply zAl | apply zSt | refine zVi (by assumption) ?_ ?_) | go_size))).mono ?_); rintro e w1 ⟨b1, a1, n1, c1, rfl, hv1, hf1, hb1⟩; clear tok1 _t; have hz1 := hb1.size; (try simp only [World.size_alloc, World.size_setCell, World.size_drew, World.size_drewN'] at hz1); (try (have kq := cellAt hb1 (w.heap.size) (by go_size); have k1_w_0_0 := kq 0; have k1_w_0_1 := kq 1; clear kq; have f1_w_0 := frozAt hb1 (w.heap.size) (by go_size); simp [go_sem, *] at k1_w_0_0 k1_w_0_1 f1_w_0)); (try have l1_w_0 : w.heap.size < w1.heap.size := by omega); (try (have kq := cellAt hb1 (w.heap.size + 1) (by go_size); have k1_w_1_0 := kq 0; have k1_w_1_1 := kq 1; clear kq; have f1_w_1 := frozAt hb1 (w.heap.size + 1) (by go_size); simp [go_sem, *] at k1_w_1_0 k1_w_1_1 f1_w_1)); (try have l1_w_1 : w.heap.size + 1 < w1.heap.size := by omega)))
        refine bodyPost_ret (v := .tuple #[.agg #[.bool b1, .slice a1 n1 c1], .int .i64 0]) (by simp [results, Try.results53, go_sem, *]) rfl ⟨_, _, _, _, by rw [← HD.out.2], ⟨hv1.neg, ?_⟩, ?_, ?_⟩
        · have hr1 := hv1.row
          (repeat' first | exact hr1 | refine Sx.set ?_ ?_ _ _ | refine Sx.alloc ?_ _ | refine Sx.drew ?_ | (intro A e; have := hf1 A e; (try simp only [World.size_alloc, World.size_setCell, World.size_drew, World.size_drewN'] at this); omega))
        · (intro A e; have := hf1 A e; (try simp only [World.size_alloc, World.size_setCell, World.size_drew, World.size_drewN'] at this); omega)
        repeat' first | (with_reducible first | apply zRf | assumption | apply zDn | apply zDr | apply zAl | apply zSt | refine zVi (by assumption) ?_ ?_) | go_size
theorem divWhole_any {b : Bool} {a : Option Addr} {n c : Nat} {z d : Int} {w : World} (hs : Wx w b a n c z) (hl : ln z ≤ 9000) (hd : 1 ≤ d) (hd2 : d ≤ 100000000000000) :
    Calls Try.prog 53 #[.agg #[.bool b, .slice a n c], .int .i64 d] w (NewQ w z d) := by
  have hn := hs.ln
  cases b
  · exact divWhole_pos a n c z d w hs (by omega) hd hd2
  · exact divWhole_neg a n c z d w hs (by omega) hd hd2
end Go.Proofs.Ytijpfnkhaldfeaa
