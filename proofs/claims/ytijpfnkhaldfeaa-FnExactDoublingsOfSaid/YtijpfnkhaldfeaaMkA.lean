/- Parts: The laws' copies, comparisons and marks of ratios, The laws' marks of ratios, and of rows of ratios. -/
import Derived.Test.YtijpfnkhaldfeaaRwA
import Derived.Test.YtijpfnkhaldfeaaLs
import Derived.Test.YtijpfnkhaldfeaaPln
namespace Go.Proofs.Ytijpfnkhaldfeaa
section
open Go.RowKit
set_option linter.unusedVariables false
set_option maxHeartbeats 4000000
set_option maxRecDepth 20000
set_option linter.unusedSimpArgs false
theorem szIntS_any (a : Option Addr) (n c : Nat) (left : Int) (w : World) (hn : n ≤ 9223372036854775807) (h0 : -1 ≤ left) (h1 : left ≤ 1048576) : Calls Try.prog 27 #[.slice a n c, .int .i64 left] w fun e w' => e = .returned (.int .i64 (if left - n < 0 then -1 else left - n)) ∧ Below w.heap.size w w' := by
  by_cases h : left - n < 0
  · rw [if_pos h]
    go_enter Try.func27, Try.ntmps27
    go_wp2_with fail
    go_ret
    refine ⟨rfl, ?_⟩
    repeat' first | (with_reducible first | apply zRf | assumption | apply zDn | apply zDr | apply zAl | apply zSt | refine zVi (by assumption) ?_ ?_) | go_size
  · rw [if_neg h]
    have hd : decide (left - (n : Int) < 0) = false := decide_eq_false h
    go_enter Try.func27, Try.ntmps27
    go_wp2_with fail
    go_ret
    refine ⟨rfl, ?_⟩
    repeat' first | (with_reducible first | apply zRf | assumption | apply zDn | apply zDr | apply zAl | apply zSt | refine zVi (by assumption) ?_ ?_) | go_size
def szV (left : Int) (n : Nat) : Int := if left - n < 0 then -1 else left - n
theorem szWhole_any (b : Bool) (a : Option Addr) (n c : Nat) (left : Int) (w : World) (hn : n ≤ 9223372036854775807) (h0 : -1 ≤ left) (h1 : left ≤ 1048576) : Calls Try.prog 14 #[.agg #[.bool b, .slice a n c], .int .i64 left] w fun e w' => e = .returned (.int .i64 (szV left n)) ∧ Below w.heap.size w w' := by
  have T1 := fun W : World => Lib.hid (szIntS_any a n c left W hn h0 h1)
  unfold szV
  by_cases h : left - n < 0
  · simp only [if_pos h] at T1 ⊢
    clear h
    have tok1 : True := trivial
    go_enter Try.func14, Try.ntmps14
    go_wp2_with (first | (have _t := tok1; go_at_call 27; (with_reducible refine ((T1 _).out).mono ?_); rintro e w1 ⟨rfl, hb1⟩; clear tok1 _t; have hz1 := hb1.size; (try simp only [World.size_alloc, World.size_setCell, World.size_drew, World.size_drewN'] at hz1); (try (have kq := cellAt hb1 (w.heap.size) (by go_size); have k1_w_0_0 := kq 0; have k1_w_0_1 := kq 1; clear kq; have f1_w_0 := frozAt hb1 (w.heap.size) (by go_size); simp [go_sem, *] at k1_w_0_0 k1_w_0_1 f1_w_0)); (try have l1_w_0 : w.heap.size < w1.heap.size := by omega)))
    go_ret
    refine ⟨rfl, ?_⟩
    repeat' first | (with_reducible first | apply zRf | assumption | apply zDn | apply zDr | apply zAl | apply zSt | refine zVi (by assumption) ?_ ?_) | go_size
  · simp only [if_neg h] at T1 ⊢
    have hd : decide (left - (n : Int) < 0) = false := decide_eq_false h
    have tok1 : True := trivial
    go_enter Try.func14, Try.ntmps14
    go_wp2_with (first | (have _t := tok1; go_at_call 27; (with_reducible refine ((T1 _).out).mono ?_); rintro e w1 ⟨rfl, hb1⟩; clear tok1 _t; have hz1 := hb1.size; (try simp only [World.size_alloc, World.size_setCell, World.size_drew, World.size_drewN'] at hz1); (try (have kq := cellAt hb1 (w.heap.size) (by go_size); have k1_w_0_0 := kq 0; have k1_w_0_1 := kq 1; clear kq; have f1_w_0 := frozAt hb1 (w.heap.size) (by go_size); simp [go_sem, *] at k1_w_0_0 k1_w_0_1 f1_w_0)); (try have l1_w_0 : w.heap.size < w1.heap.size := by omega)))
    go_ret
    refine ⟨rfl, ?_⟩
    repeat' first | (with_reducible first | apply zRf | assumption | apply zDn | apply zDr | apply zAl | apply zSt | refine zVi (by assumption) ?_ ?_) | go_size
def szR (left : Int) (n n2 : Nat) : Int := if left - n < 0 then -1 else szV (left - n) n2
theorem szRatio_any (b b2 : Bool) (a a2 : Option Addr) (n c n2 c2 : Nat) (left : Int) (w : World) (hn : n ≤ 9223372036854775807) (hn2 : n2 ≤ 9223372036854775807) (h0 : -1 ≤ left) (h1 : left ≤ 1048576) : Calls Try.prog 4 #[.agg #[.bool b, .slice a n c, .bool b2, .slice a2 n2 c2], .int .i64 left] w fun e w' => e = .returned (.int .i64 (szR left n n2)) ∧ Below w.heap.size w w' := by
  have T1 := fun W : World => Lib.hid (szWhole_any b a n c left W hn h0 h1)
  unfold szR
  unfold szV at *
  by_cases h : left - n < 0
  · simp only [if_pos h] at T1 ⊢
    clear h
    have tok1 : True := trivial
    have tok2 : True := trivial
    go_enter Try.func4, Try.ntmps4
    go_wp2_with (first | (first | (have _t := tok1; go_at_call 14; (with_reducible refine ((T1 _).out).mono ?_); rintro e w1 ⟨rfl, hb1⟩; clear tok1 _t; have hz1 := hb1.size; (try simp only [World.size_alloc, World.size_setCell, World.size_drew, World.size_drewN'] at hz1); (try (have kq := cellAt hb1 (w.heap.size) (by go_size); have k1_w_0_0 := kq 0; have k1_w_0_1 := kq 1; have k1_w_0_2 := kq 2; have k1_w_0_3 := kq 3; clear kq; have f1_w_0 := frozAt hb1 (w.heap.size) (by go_size); simp [go_sem, *] at k1_w_0_0 k1_w_0_1 k1_w_0_2 k1_w_0_3 f1_w_0)); (try have l1_w_0 : w.heap.size < w1.heap.size := by omega)) | (have _t := tok2; go_at_call 14; (with_reducible refine ((T2 _).out).mono ?_); rintro e w2 ⟨rfl, hb2⟩; clear tok2 _t; have hz2 := hb2.size; (try simp only [World.size_alloc, World.size_setCell, World.size_drew, World.size_drewN'] at hz2); (try (have kq := cellAt hb2 (w.heap.size) (by go_size); have k2_w_0_0 := kq 0; have k2_w_0_1 := kq 1; have k2_w_0_2 := kq 2; have k2_w_0_3 := kq 3; clear kq; have f2_w_0 := frozAt hb2 (w.heap.size) (by go_size); simp [go_sem, *] at k2_w_0_0 k2_w_0_1 k2_w_0_2 k2_w_0_3 f2_w_0)); (try have l2_w_0 : w.heap.size < w2.heap.size := by omega); (try clear k1_w_0_0 k1_w_0_1 k1_w_0_2 k1_w_0_3 f1_w_0); (try clear l1_w_0))))
    go_ret
    refine ⟨rfl, ?_⟩
    repeat' first | (with_reducible first | apply zRf | assumption | apply zDn | apply zDr | apply zAl | apply zSt | refine zVi (by assumption) ?_ ?_) | go_size
  · simp only [if_neg h] at T1 ⊢
    have T2 := fun W : World => Lib.hid (szWhole_any b2 a2 n2 c2 (left - n) W hn2 (by omega) (by omega))
    unfold szV at T2
    have hd : decide (left - (n : Int) < 0) = false := decide_eq_false h
    by_cases h' : left - n - n2 < 0
    · simp only [if_pos h'] at T2 ⊢
      clear h'
      have tok1 : True := trivial
      have tok2 : True := trivial
      go_enter Try.func4, Try.ntmps4
      go_wp2_with (first | (first | (have _t := tok1; go_at_call 14; (with_reducible refine ((T1 _).out).mono ?_); rintro e w1 ⟨rfl, hb1⟩; clear tok1 _t; have hz1 := hb1.size; (try simp only [World.size_alloc, World.size_setCell, World.size_drew, World.size_drewN'] at hz1); (try (have kq := cellAt hb1 (w.heap.size) (by go_size); have k1_w_0_0 := kq 0; have k1_w_0_1 := kq 1; have k1_w_0_2 := kq 2; have k1_w_0_3 := kq 3; clear kq; have f1_w_0 := frozAt hb1 (w.heap.size) (by go_size); simp [go_sem, *] at k1_w_0_0 k1_w_0_1 k1_w_0_2 k1_w_0_3 f1_w_0)); (try have l1_w_0 : w.heap.size < w1.heap.size := by omega)) | (have _t := tok2; go_at_call 14; (with_reducible refine ((T2 _).out).mono ?_); rintro e w2 ⟨rfl, hb2⟩; clear tok2 _t; have hz2 := hb2.size; (try simp only [World.size_alloc, World.size_setCell, World.size_drew, World.size_drewN'] at hz2); (try (have kq := cellAt hb2 (w.heap.size) (by go_size); have k2_w_0_0 := kq 0; have k2_w_0_1 := kq 1; have k2_w_0_2 := kq 2; have k2_w_0_3 := kq 3; clear kq; have f2_w_0 := frozAt hb2 (w.heap.size) (by go_size); simp [go_sem, *] at k2_w_0_0 k2_w_0_1 k2_w_0_2 k2_w_0_3 f2_w_0)); (try have l2_w_0 : w.heap.size < w2.heap.size := by omega); (try clear k1_w_0_0 k1_w_0_1 k1_w_0_2 k1_w_0_3 f1_w_0); (try clear l1_w_0))))
      go_ret
      refine ⟨rfl, ?_⟩
      repeat' first | (with_reducible first | apply zRf | assumption | apply zDn | apply zDr | apply zAl | apply zSt | refine zVi (by assumption) ?_ ?_) | go_size
    · simp only [if_neg h'] at T2 ⊢
      have hd' : decide (left - (n : Int) - (n2 : Int) < 0) = false := decide_eq_false h'
      have tok1 : True := trivial
      have tok2 : True := trivial
      go_enter Try.func4, Try.ntmps4
      go_wp2_with (first | (first | (have _t := tok1; go_at_call 14; (with_reducible refine ((T1 _).out).mono ?_); rintro e w1 ⟨rfl, hb1⟩; clear tok1 _t; have hz1 := hb1.size; (try simp only [World.size_alloc, World.size_setCell, World.size_drew, World.size_drewN'] at hz1); (try (have kq := cellAt hb1 (w.heap.size) (by go_size); have k1_w_0_0 := kq 0; have k1_w_0_1 := kq 1; have k1_w_0_2 := kq 2; have k1_w_0_3 := kq 3; clear kq; have f1_w_0 := frozAt hb1 (w.heap.size) (by go_size); simp [go_sem, *] at k1_w_0_0 k1_w_0_1 k1_w_0_2 k1_w_0_3 f1_w_0)); (try have l1_w_0 : w.heap.size < w1.heap.size := by omega)) | (have _t := tok2; go_at_call 14; (with_reducible refine ((T2 _).out).mono ?_); rintro e w2 ⟨rfl, hb2⟩; clear tok2 _t; have hz2 := hb2.size; (try simp only [World.size_alloc, World.size_setCell, World.size_drew, World.size_drewN'] at hz2); (try (have kq := cellAt hb2 (w.heap.size) (by go_size); have k2_w_0_0 := kq 0; have k2_w_0_1 := kq 1; have k2_w_0_2 := kq 2; have k2_w_0_3 := kq 3; clear kq; have f2_w_0 := frozAt hb2 (w.heap.size) (by go_size); simp [go_sem, *] at k2_w_0_0 k2_w_0_1 k2_w_0_2 k2_w_0_3 f2_w_0)); (try have l2_w_0 : w.heap.size < w2.heap.size := by omega); (try clear k1_w_0_0 k1_w_0_1 k1_w_0_2 k1_w_0_3 f1_w_0); (try clear l1_w_0))))
      go_ret
      refine ⟨rfl, ?_⟩
      repeat' first | (with_reducible first | apply zRf | assumption | apply zDn | apply zDr | apply zAl | apply zSt | refine zVi (by assumption) ?_ ?_) | go_size
/-! ### copies -/
theorem bx_set4a {W : World} {g : Nat} {u0 u1 u2 u3 v0 v1 : Value} {T : TypeId} (h : W.heap[g]? = some (.cells #[u0, u1, u2, u3] T)) :
    ((W.setCell ⟨g, 0, none⟩ v0).setCell ⟨g, 1, none⟩ v1).heap[g]? = some (.cells #[v0, v1, u2, u3] T) := by
  rw [blk_set (blk_set h)]; rfl
theorem bx_set4b {W : World} {g : Nat} {u0 u1 u2 u3 v2 v3 : Value} {T : TypeId} (h : W.heap[g]? = some (.cells #[u0, u1, u2, u3] T)) :
    ((W.setCell ⟨g, 2, none⟩ v2).setCell ⟨g, 3, none⟩ v3).heap[g]? = some (.cells #[u0, u1, v2, v3] T) := by
  rw [blk_set (blk_set h)]; rfl
theorem ows_row {W : World} {B g n : Nat} {zs : List Int} (h : W.heap[g]? = some (.cells (ints zs).toArray 3 (0, 0))) (hB : B ≤ g) (hn : zs.length = n) (hm : n ≤ maxLen) : OwS W B (some ⟨g, 0, none⟩) n n zs := by
  subst hn
  exact ⟨by simp [ints], .inr ⟨g, zs.length, (ints zs).toArray, rfl, hB, h, Nat.le_refl _, hm, by simp [ints], by rw [List.take_of_length_le (by simp [ints])]⟩⟩
theorem toIntS_ow (a : Option Addr) (n c : Nat) (zs : List Int) (w : World) (h : Sx w a n c zs) (hn : n ≤ 1048576) : Calls Try.prog 35 #[.slice a n c] w fun e w' =>
    e = .returned (.slice (some ⟨w.heap.size, 0, none⟩) n n) ∧ OwS w' w.heap.size (some ⟨w.heap.size, 0, none⟩) n n zs ∧ Below w.heap.size w w' := by
  obtain ⟨i0, hi, hz0, hz1, hz2⟩ := info_parts infoInt
  have hln := Lib.hid h.len
  have hnm : n ≤ maxLen := by unfold maxLen; omega
  go_enter Try.func35, Try.ntmps35
  go_wp2_with (first | (at_make; refine wpList_make_full _ rfl _ _ 24 rfl w.heap.size 3 i0 (.int .i64 0) 1 Try.underlying24 hi hz0 hz1 .i64 .i64 _ _ n rfl rfl rfl rfl (by rw [hz2]; omega) (by unfold maxLen; omega) (by simp) ?_; intro W0 hm0 hg0; have hr0 := made_row hm0; have hb0 := made_below (B := w.heap.size) (a := w) (by repeat' first | (with_reducible first | apply zRf | assumption | apply zDn | apply zDr | apply zAl | apply zSt | refine zVi (by assumption) ?_ ?_) | go_size) hg0 (by simp; try omega); clear hm0 hg0))
  go_loopw [4] (fun iv wr => CiRel w 3 zs n iv wr) (fun iv _ => (n - intOf iv).toNat)
  case atStart => exact ⟨0, List.replicate n 0, rfl, by omega, by simp, fun j hj => by omega, hr0, hb0⟩
  case round =>
    obtain ⟨k, qs, rfl, hk, hq, hp, hrow, hbw⟩ := hrel
    have hsw := hbw.size
    have HP := Lib.hid hp
    have HQ := Lib.hid hq
    clear hp hq
    by_cases h0 : k < n
    · obtain ⟨b, off, rfl, hb, hcs⟩ := h.at (by omega)
      have c0 := (hbw.cell (p := ⟨b, off + k, none⟩) hb).trans (hcs k (by omega))
      have d0 := row_at hrow (j := k) (by have := HQ.out; omega)
      have f0 : wr.frozen? ⟨w.heap.size, k, none⟩ = false := by simp [World.frozen?, hrow]
      have hk2 : (k : Int) < (n : Int) := by omega
      clear hcs
      go_wp2_with fail
      go_roundw
      case rel => exact ⟨k + 1, _, by go_num, by omega, by simp [HQ.out], ints_next hln.out HQ.out h0 HP.out, row_set hrow _ _, by repeat' first | (with_reducible first | apply zRf | assumption | apply zDn | apply zDr | apply zAl | apply zSt | refine zVi (by assumption) ?_ ?_) | go_size⟩
      case measure => simp [intOf]; omega
    · obtain rfl : k = n := by omega
      go_wp2_with fail
      go_ret
      refine ⟨rfl, ?_⟩
      have e := ints_all hln.out HQ.out HP.out
      subst e
      exact ⟨ows_row hrow (Nat.le_refl _) HQ.out hnm, hbw⟩
theorem toWhole_ow (b : Bool) (a : Option Addr) (n c : Nat) (zs : List Int) (w : World) (h : Sx w a n c zs) (hn : n ≤ 1048576) : Calls Try.prog 18 #[.agg #[.bool b, .slice a n c]] w fun e w' =>
    ∃ a', e = .returned (.agg #[.bool b, .slice a' n n]) ∧ OwS w' w.heap.size a' n n zs ∧ Below w.heap.size w w' := by
  have T1 : ∀ W, Below w.heap.size w W → Calls Try.prog 35 #[.slice a n c] W fun e w' => ∃ a', e = .returned (.slice a' n n) ∧ OwS w' W.heap.size a' n n zs ∧ Below W.heap.size W w' := fun W hW => (toIntS_ow a n c zs W (h.below hW) hn).mono fun e w' ⟨h1, h2, h3⟩ => ⟨_, h1, h2, h3⟩
  clear h
  have tok1 : True := trivial
  go_enter Try.func18, Try.ntmps18
  go_wp2_with (first | (have _t := tok1; go_at_call 35; (with_reducible refine ((T1 _ (by repeat' first | (with_reducible first | apply zRf | assumption | apply zDn | apply zDr | apply zAl | apply zSt | refine zVi (by assumption) ?_ ?_) | go_size))).mono ?_); rintro e w1 ⟨a1, rfl, ho1, hb1⟩; clear tok1 _t; have hz1 := hb1.size; (try simp only [World.size_alloc, World.size_setCell, World.size_drew, World.size_drewN'] at hz1); (try (have kq := cellAt hb1 (w.heap.size) (by go_size); have k1_w_0_0 := kq 0; have k1_w_0_1 := kq 1; clear kq; have f1_w_0 := frozAt hb1 (w.heap.size) (by go_size); simp [go_sem, *] at k1_w_0_0 k1_w_0_1 f1_w_0)); (try have l1_w_0 : w.heap.size < w1.heap.size := by omega); (try (have kq := cellAt hb1 (w.heap.size + 1) (by go_size); have k1_w_1_0 := kq 0; have k1_w_1_1 := kq 1; clear kq; have f1_w_1 := frozAt hb1 (w.heap.size + 1) (by go_size); simp [go_sem, *] at k1_w_1_0 k1_w_1_1 f1_w_1)); (try have l1_w_1 : w.heap.size + 1 < w1.heap.size := by omega); (try (have kq := cellAt hb1 (w.heap.size + 1 + 1) (by go_size); have k1_w_2_0 := kq 0; have k1_w_2_1 := kq 1; clear kq; have f1_w_2 := frozAt hb1 (w.heap.size + 1 + 1) (by go_size); simp [go_sem, *] at k1_w_2_0 k1_w_2_1 f1_w_2)); (try have l1_w_2 : w.heap.size + 1 + 1 < w1.heap.size := by omega)))
  refine bodyPost_ret (v := .agg #[.bool b, .slice a1 n n]) (by simp [results, Try.results18, go_sem, *]) rfl ⟨_, rfl, ?_, ?_⟩
  · (apply OwS.low; (iterate 9 (first | (with_reducible exact ho1) | (with_reducible apply OwS.setLow) | (with_reducible apply OwS.alloc) | skip)); (all_goals go_size))
  · repeat' first | (with_reducible first | apply zRf | assumption | apply zDn | apply zDr | apply zAl | apply zSt | refine zVi (by assumption) ?_ ?_) | go_size
theorem toRatio_ow (b b2 : Bool) (a a2 : Option Addr) (n c n2 c2 : Nat) (zs ys : List Int) (w : World) (h : Sx w a n c zs) (h2 : Sx w a2 n2 c2 ys) (hn : n ≤ 1048576) (hn2 : n2 ≤ 1048576) : Calls Try.prog 7 #[.agg #[.bool b, .slice a n c, .bool b2, .slice a2 n2 c2]] w fun e w' =>
    ∃ a' a2', e = .returned (.agg #[.bool b, .slice a' n n, .bool b2, .slice a2' n2 n2]) ∧ OwS w' w.heap.size a' n n zs ∧ OwS w' w.heap.size a2' n2 n2 ys ∧ farA a' a2' ∧ Below w.heap.size w w' := by
  have T1 : ∀ W, Below w.heap.size w W → Calls Try.prog 18 #[.agg #[.bool b, .slice a n c]] W fun e w' => ∃ a', e = .returned (.agg #[.bool b, .slice a' n n]) ∧ OwS w' W.heap.size a' n n zs ∧ Below W.heap.size W w' := fun W hW => toWhole_ow b a n c zs W (h.below hW) hn
  have T2 : ∀ W, Below w.heap.size w W → Calls Try.prog 18 #[.agg #[.bool b2, .slice a2 n2 c2]] W fun e w' => ∃ a', e = .returned (.agg #[.bool b2, .slice a' n2 n2]) ∧ OwS w' W.heap.size a' n2 n2 ys ∧ Below W.heap.size W w' := fun W hW => toWhole_ow b2 a2 n2 c2 ys W (h2.below hW) hn2
  clear h h2
  have tok1 : True := trivial
  have tok2 : True := trivial
  go_enter Try.func7, Try.ntmps7
  go_upto_region 2 with fail
  refine chk (fun W => Below w.heap.size w W ∧ W.heap[w.heap.size]? = some (.cells #[.bool b, .slice a n c, .bool b2, .slice a2 n2 c2] 28 (0, 0)) ∧ W.heap[w.heap.size + 1]? = some (.cells #[.bool false, .slice none 0 0, .bool false, .slice none 0 0] 37 (0, 0)) ∧ W.heap[w.heap.size + 1 + 1]? = some (.cells #[.bool false, .slice none 0 0, .bool false, .slice none 0 0] 37 (0, 0))) (by refine ⟨?_, ?_, ?_, ?_⟩ <;> (repeat' first | (with_reducible first | assumption | (apply Ne.symm; assumption) | apply Nat.le_refl | apply Nat.le_add_right | apply zL | apply zRf | apply Wx.box | apply Wx.box4 | apply zWa | apply Wx.drew | apply zWn | apply bx_drew | apply bx_drewN | apply bx_set3 | apply bx_set2 | apply bx_set4 | apply bx_set1) | ((with_reducible apply bx_new); (focus (go_size; done))) | (with_reducible first | apply bx_set4a | apply bx_set4b | (refine (blkVia (by assumption) ?_).trans ?_) | (refine Wx.below ?_ (by assumption)) | apply OwS.setLow | apply OwS.alloc | apply OwS.drew | apply OwS.drewN | (refine OwS.low (by assumption) ?_) | (refine OwS.below ?_ (by assumption)) | apply OwnW.setLow | apply zOl | apply zFa | apply zDn | apply zDr | apply zAl | apply zSt | refine zVi (by assumption) ?_ ?_) | go_size | omega)) ?_
  rintro w10 ⟨hB10, H_I_10, H_O_10, H_V_10⟩
  obtain ⟨k_I_10_0, k_I_10_1, k_I_10_2, k_I_10_3, f_I_10, l_I_10⟩ := bk4 H_I_10
  replace H_I_10 := Lib.hid H_I_10
  obtain ⟨k_O_10_0, k_O_10_1, k_O_10_2, k_O_10_3, f_O_10, l_O_10⟩ := bk4 H_O_10
  replace H_O_10 := Lib.hid H_O_10
  obtain ⟨k_V_10_0, k_V_10_1, k_V_10_2, k_V_10_3, f_V_10, l_V_10⟩ := bk4 H_V_10
  replace H_V_10 := Lib.hid H_V_10
  have hO10 : w.heap.size + 1 < w10.heap.size := l_O_10
  have hI := H_I_10.out
  have hO := H_O_10.out
  have hV := H_V_10.out
  go_upto_region 3 with (first | (have _t := tok1; go_at_call 18; (with_reducible refine ((T1 _ (by repeat' first | (with_reducible first | apply zRf | assumption | apply zDn | apply zDr | apply zAl | apply zSt | refine zVi (by assumption) ?_ ?_) | go_size))).mono ?_); rintro e w1 ⟨a1, rfl, ho1, hb1⟩; clear tok1 _t; have hz1 := hb1.size; (try simp only [World.size_alloc, World.size_setCell, World.size_drew, World.size_drewN'] at hz1); (try (have kq := cellAt hb1 (w.heap.size) (by go_size); have k1_w_0_0 := kq 0; have k1_w_0_1 := kq 1; have k1_w_0_2 := kq 2; have k1_w_0_3 := kq 3; clear kq; have f1_w_0 := frozAt hb1 (w.heap.size) (by go_size); simp [go_sem, *] at k1_w_0_0 k1_w_0_1 k1_w_0_2 k1_w_0_3 f1_w_0)); (try have l1_w_0 : w.heap.size < w1.heap.size := by omega); (try (have kq := cellAt hb1 (w.heap.size + 1) (by go_size); have k1_w_1_0 := kq 0; have k1_w_1_1 := kq 1; have k1_w_1_2 := kq 2; have k1_w_1_3 := kq 3; clear kq; have f1_w_1 := frozAt hb1 (w.heap.size + 1) (by go_size); simp [go_sem, *] at k1_w_1_0 k1_w_1_1 k1_w_1_2 k1_w_1_3 f1_w_1)); (try have l1_w_1 : w.heap.size + 1 < w1.heap.size := by omega); (try (have kq := cellAt hb1 (w.heap.size + 1 + 1) (by go_size); have k1_w_2_0 := kq 0; have k1_w_2_1 := kq 1; have k1_w_2_2 := kq 2; have k1_w_2_3 := kq 3; clear kq; have f1_w_2 := frozAt hb1 (w.heap.size + 1 + 1) (by go_size); simp [go_sem, *] at k1_w_2_0 k1_w_2_1 k1_w_2_2 k1_w_2_3 f1_w_2)); (try have l1_w_2 : w.heap.size + 1 + 1 < w1.heap.size := by omega)) | (have _t := tok2; go_at_call 18; (with_reducible refine ((T2 _ (by repeat' first | (with_reducible first | apply zRf | assumption | apply zDn | apply zDr | apply zAl | apply zSt | refine zVi (by assumption) ?_ ?_) | go_size))).mono ?_); rintro e w2 ⟨a3, rfl, ho2, hb2⟩; clear tok2 _t; have hz2 := hb2.size; (try simp only [World.size_alloc, World.size_setCell, World.size_drew, World.size_drewN'] at hz2); (try (have kq := cellAt hb2 (w.heap.size) (by go_size); have k2_w_0_0 := kq 0; have k2_w_0_1 := kq 1; have k2_w_0_2 := kq 2; have k2_w_0_3 := kq 3; clear kq; have f2_w_0 := frozAt hb2 (w.heap.size) (by go_size); simp [go_sem, *] at k2_w_0_0 k2_w_0_1 k2_w_0_2 k2_w_0_3 f2_w_0)); (try have l2_w_0 : w.heap.size < w2.heap.size := by omega); (try (have kq := cellAt hb2 (w.heap.size + 1) (by go_size); have k2_w_1_0 := kq 0; have k2_w_1_1 := kq 1; have k2_w_1_2 := kq 2; have k2_w_1_3 := kq 3; clear kq; have f2_w_1 := frozAt hb2 (w.heap.size + 1) (by go_size); simp [go_sem, *] at k2_w_1_0 k2_w_1_1 k2_w_1_2 k2_w_1_3 f2_w_1)); (try have l2_w_1 : w.heap.size + 1 < w2.heap.size := by omega); (try (have kq := cellAt hb2 (w.heap.size + 1 + 1) (by go_size); have k2_w_2_0 := kq 0; have k2_w_2_1 := kq 1; have k2_w_2_2 := kq 2; have k2_w_2_3 := kq 3; clear kq; have f2_w_2 := frozAt hb2 (w.heap.size + 1 + 1) (by go_size); simp [go_sem, *] at k2_w_2_0 k2_w_2_1 k2_w_2_2 k2_w_2_3 f2_w_2)); (try have l2_w_2 : w.heap.size + 1 + 1 < w2.heap.size := by omega); (try clear k1_w_0_0 k1_w_0_1 k1_w_0_2 k1_w_0_3 f1_w_0); (try clear l1_w_0); (try clear k1_w_1_0 k1_w_1_1 k1_w_1_2 k1_w_1_3 f1_w_1); (try clear l1_w_1); (try clear k1_w_2_0 k1_w_2_1 k1_w_2_2 k1_w_2_3 f1_w_2); (try clear l1_w_2)))
  replace H_I_10 := H_I_10.out
  replace H_O_10 := H_O_10.out
  replace H_V_10 := H_V_10.out
  refine chk (fun W => Below w.heap.size w W ∧ W.heap[w.heap.size]? = some (.cells #[.bool b, .slice a n c, .bool b2, .slice a2 n2 c2] 28 (0, 0)) ∧ W.heap[w.heap.size + 1]? = some (.cells #[.bool false, .slice none 0 0, .bool false, .slice none 0 0] 37 (0, 0)) ∧ W.heap[w.heap.size + 1 + 1]? = some (.cells #[.bool b, .slice a1 n n, .bool false, .slice none 0 0] 37 (0, 0)) ∧ OwS W w10.heap.size a1 n n zs ∧ w10.heap.size ≤ W.heap.size) (by refine ⟨?_, ?_, ?_, ?_, ?_, ?_⟩ <;> (repeat' first | (with_reducible first | assumption | (apply Ne.symm; assumption) | apply Nat.le_refl | apply Nat.le_add_right | apply zL | apply zRf | apply Wx.box | apply Wx.box4 | apply zWa | apply Wx.drew | apply zWn | apply bx_drew | apply bx_drewN | apply bx_set3 | apply bx_set2 | apply bx_set4 | apply bx_set1) | ((with_reducible apply bx_new); (focus (go_size; done))) | (with_reducible first | apply bx_set4a | apply bx_set4b | (refine (blkVia (by assumption) ?_).trans ?_) | (refine Wx.below ?_ (by assumption)) | apply OwS.setLow | apply OwS.alloc | apply OwS.drew | apply OwS.drewN | (refine OwS.low (by assumption) ?_) | (refine OwS.below ?_ (by assumption)) | apply OwnW.setLow | apply zOl | apply zFa | apply zDn | apply zDr | apply zAl | apply zSt | refine zVi (by assumption) ?_ ?_) | go_size | omega)) ?_
  clear k_I_10_0 k_I_10_1 k_I_10_2 k_I_10_3 f_I_10 H_I_10
  clear k_O_10_0 k_O_10_1 k_O_10_2 k_O_10_3 f_O_10 H_O_10
  clear k_V_10_0 k_V_10_1 k_V_10_2 k_V_10_3 f_V_10 H_V_10
  clear hB10
  rintro w11 ⟨hB11, H_I_11, H_O_11, H_V_11, ho3, hs11⟩
  obtain ⟨k_I_11_0, k_I_11_1, k_I_11_2, k_I_11_3, f_I_11, l_I_11⟩ := bk4 H_I_11
  replace H_I_11 := Lib.hid H_I_11
  obtain ⟨k_O_11_0, k_O_11_1, k_O_11_2, k_O_11_3, f_O_11, l_O_11⟩ := bk4 H_O_11
  replace H_O_11 := Lib.hid H_O_11
  obtain ⟨k_V_11_0, k_V_11_1, k_V_11_2, k_V_11_3, f_V_11, l_V_11⟩ := bk4 H_V_11
  replace H_V_11 := Lib.hid H_V_11
  clear hI hO hV
  have hI := H_I_11.out
  have hO := H_O_11.out
  have hV := H_V_11.out
  go_upto_region 4 with (first | (have _t := tok1; go_at_call 18; (with_reducible refine ((T1 _ (by repeat' first | (with_reducible first | apply zRf | assumption | apply zDn | apply zDr | apply zAl | apply zSt | refine zVi (by assumption) ?_ ?_) | go_size))).mono ?_); rintro e w1 ⟨a1, rfl, ho1, hb1⟩; clear tok1 _t; have hz1 := hb1.size; (try simp only [World.size_alloc, World.size_setCell, World.size_drew, World.size_drewN'] at hz1); (try (have kq := cellAt hb1 (w.heap.size) (by go_size); have k1_w_0_0 := kq 0; have k1_w_0_1 := kq 1; have k1_w_0_2 := kq 2; have k1_w_0_3 := kq 3; clear kq; have f1_w_0 := frozAt hb1 (w.heap.size) (by go_size); simp [go_sem, *] at k1_w_0_0 k1_w_0_1 k1_w_0_2 k1_w_0_3 f1_w_0)); (try have l1_w_0 : w.heap.size < w1.heap.size := by omega); (try (have kq := cellAt hb1 (w.heap.size + 1) (by go_size); have k1_w_1_0 := kq 0; have k1_w_1_1 := kq 1; have k1_w_1_2 := kq 2; have k1_w_1_3 := kq 3; clear kq; have f1_w_1 := frozAt hb1 (w.heap.size + 1) (by go_size); simp [go_sem, *] at k1_w_1_0 k1_w_1_1 k1_w_1_2 k1_w_1_3 f1_w_1)); (try have l1_w_1 : w.heap.size + 1 < w1.heap.size := by omega); (try (have kq := cellAt hb1 (w.heap.size + 1 + 1) (by go_size); have k1_w_2_0 := kq 0; have k1_w_2_1 := kq 1; have k1_w_2_2 := kq 2; have k1_w_2_3 := kq 3; clear kq; have f1_w_2 := frozAt hb1 (w.heap.size + 1 + 1) (by go_size); simp [go_sem, *] at k1_w_2_0 k1_w_2_1 k1_w_2_2 k1_w_2_3 f1_w_2)); (try have l1_w_2 : w.heap.size + 1 + 1 < w1.heap.size := by omega)) | (have _t := tok2; go_at_call 18; (with_reducible refine ((T2 _ (by repeat' first | (with_reducible first | apply zRf | assumption | apply zDn | apply zDr | apply zAl | apply zSt | refine zVi (by assumption) ?_ ?_) | go_size))).mono ?_); rintro e w2 ⟨a3, rfl, ho2, hb2⟩; clear tok2 _t; have hz2 := hb2.size; (try simp only [World.size_alloc, World.size_setCell, World.size_drew, World.size_drewN'] at hz2); (try (have kq := cellAt hb2 (w.heap.size) (by go_size); have k2_w_0_0 := kq 0; have k2_w_0_1 := kq 1; have k2_w_0_2 := kq 2; have k2_w_0_3 := kq 3; clear kq; have f2_w_0 := frozAt hb2 (w.heap.size) (by go_size); simp [go_sem, *] at k2_w_0_0 k2_w_0_1 k2_w_0_2 k2_w_0_3 f2_w_0)); (try have l2_w_0 : w.heap.size < w2.heap.size := by omega); (try (have kq := cellAt hb2 (w.heap.size + 1) (by go_size); have k2_w_1_0 := kq 0; have k2_w_1_1 := kq 1; have k2_w_1_2 := kq 2; have k2_w_1_3 := kq 3; clear kq; have f2_w_1 := frozAt hb2 (w.heap.size + 1) (by go_size); simp [go_sem, *] at k2_w_1_0 k2_w_1_1 k2_w_1_2 k2_w_1_3 f2_w_1)); (try have l2_w_1 : w.heap.size + 1 < w2.heap.size := by omega); (try (have kq := cellAt hb2 (w.heap.size + 1 + 1) (by go_size); have k2_w_2_0 := kq 0; have k2_w_2_1 := kq 1; have k2_w_2_2 := kq 2; have k2_w_2_3 := kq 3; clear kq; have f2_w_2 := frozAt hb2 (w.heap.size + 1 + 1) (by go_size); simp [go_sem, *] at k2_w_2_0 k2_w_2_1 k2_w_2_2 k2_w_2_3 f2_w_2)); (try have l2_w_2 : w.heap.size + 1 + 1 < w2.heap.size := by omega); (try clear k1_w_0_0 k1_w_0_1 k1_w_0_2 k1_w_0_3 f1_w_0); (try clear l1_w_0); (try clear k1_w_1_0 k1_w_1_1 k1_w_1_2 k1_w_1_3 f1_w_1); (try clear l1_w_1); (try clear k1_w_2_0 k1_w_2_1 k1_w_2_2 k1_w_2_3 f1_w_2); (try clear l1_w_2)))
  have hf : farA a1 a3 := OwS.far ho3 ho2 (by first | exact Nat.le_refl _ | go_size)
  replace ho2 := ho2.low (show w10.heap.size ≤ _ by go_size)
  replace H_I_11 := H_I_11.out
  replace H_O_11 := H_O_11.out
  replace H_V_11 := H_V_11.out
  refine chk (fun W => Below w.heap.size w W ∧ W.heap[w.heap.size + 1]? = some (.cells #[.bool false, .slice none 0 0, .bool false, .slice none 0 0] 37 (0, 0)) ∧ W.heap[w.heap.size + 1 + 1]? = some (.cells #[.bool b, .slice a1 n n, .bool b2, .slice a3 n2 n2] 37 (0, 0)) ∧ OwS W w10.heap.size a1 n n zs ∧ OwS W w10.heap.size a3 n2 n2 ys) (by refine ⟨?_, ?_, ?_, ?_, ?_⟩ <;> (repeat' first | (with_reducible first | assumption | (apply Ne.symm; assumption) | apply Nat.le_refl | apply Nat.le_add_right | apply zL | apply zRf | apply Wx.box | apply Wx.box4 | apply zWa | apply Wx.drew | apply zWn | apply bx_drew | apply bx_drewN | apply bx_set3 | apply bx_set2 | apply bx_set4 | apply bx_set1) | ((with_reducible apply bx_new); (focus (go_size; done))) | (with_reducible first | apply bx_set4a | apply bx_set4b | (refine (blkVia (by assumption) ?_).trans ?_) | (refine Wx.below ?_ (by assumption)) | apply OwS.setLow | apply OwS.alloc | apply OwS.drew | apply OwS.drewN | (refine OwS.low (by assumption) ?_) | (refine OwS.below ?_ (by assumption)) | apply OwnW.setLow | apply zOl | apply zFa | apply zDn | apply zDr | apply zAl | apply zSt | refine zVi (by assumption) ?_ ?_) | go_size | omega)) ?_
  clear k_I_11_0 k_I_11_1 k_I_11_2 k_I_11_3 f_I_11 H_I_11
  clear k_O_11_0 k_O_11_1 k_O_11_2 k_O_11_3 f_O_11 H_O_11
  clear k_V_11_0 k_V_11_1 k_V_11_2 k_V_11_3 f_V_11 H_V_11
  clear hB11
  rintro w12 ⟨hB12, H_O_12, H_V_12, ho4, ho5⟩
  obtain ⟨k_O_12_0, k_O_12_1, k_O_12_2, k_O_12_3, f_O_12, l_O_12⟩ := bk4 H_O_12
  replace H_O_12 := Lib.hid H_O_12
  obtain ⟨k_V_12_0, k_V_12_1, k_V_12_2, k_V_12_3, f_V_12, l_V_12⟩ := bk4 H_V_12
  replace H_V_12 := Lib.hid H_V_12
  clear hI hO hV
  have hOV : w.heap.size + 1 ≠ w.heap.size + 1 + 1 := by omega
  iterate 24 (first | (with_reducible show bodyPost _ _ _ _ _ _) | (with_reducible refine wp_ret ?_) | go_values | go_skip | go_guarded | go_step | go_upon | go_back | skip)
  refine bodyPost_ret (v := .agg #[.bool b, .slice a1 n n, .bool b2, .slice a3 n2 n2]) (by simp [results, Try.results7, go_sem, k_O_12_0, k_O_12_1, k_O_12_2, k_O_12_3]) rfl ⟨_, _, rfl, ?_, ?_, hf, ?_⟩
  · refine OwS.low (B := w10.heap.size) ?_ (by omega)
    (repeat' first | (with_reducible first | assumption | (apply Ne.symm; assumption) | apply Nat.le_refl | apply Nat.le_add_right | apply zL | apply zRf | apply Wx.box | apply Wx.box4 | apply zWa | apply Wx.drew | apply zWn | apply bx_drew | apply bx_drewN | apply bx_set3 | apply bx_set2 | apply bx_set4 | apply bx_set1) | ((with_reducible apply bx_new); (focus (go_size; done))) | (with_reducible first | apply bx_set4a | apply bx_set4b | (refine (blkVia (by assumption) ?_).trans ?_) | (refine Wx.below ?_ (by assumption)) | apply OwS.setLow | apply OwS.alloc | apply OwS.drew | apply OwS.drewN | (refine OwS.low (by assumption) ?_) | (refine OwS.below ?_ (by assumption)) | apply OwnW.setLow | apply zOl | apply zFa | apply zDn | apply zDr | apply zAl | apply zSt | refine zVi (by assumption) ?_ ?_) | go_size | omega)
  · refine OwS.low (B := w10.heap.size) ?_ (by omega)
    (repeat' first | (with_reducible first | assumption | (apply Ne.symm; assumption) | apply Nat.le_refl | apply Nat.le_add_right | apply zL | apply zRf | apply Wx.box | apply Wx.box4 | apply zWa | apply Wx.drew | apply zWn | apply bx_drew | apply bx_drewN | apply bx_set3 | apply bx_set2 | apply bx_set4 | apply bx_set1) | ((with_reducible apply bx_new); (focus (go_size; done))) | (with_reducible first | apply bx_set4a | apply bx_set4b | (refine (blkVia (by assumption) ?_).trans ?_) | (refine Wx.below ?_ (by assumption)) | apply OwS.setLow | apply OwS.alloc | apply OwS.drew | apply OwS.drewN | (refine OwS.low (by assumption) ?_) | (refine OwS.below ?_ (by assumption)) | apply OwnW.setLow | apply zOl | apply zFa | apply zDn | apply zDr | apply zAl | apply zSt | refine zVi (by assumption) ?_ ?_) | go_size | omega)
  · repeat' first | (with_reducible first | apply zRf | assumption | apply zDn | apply zDr | apply zAl | apply zSt | refine zVi (by assumption) ?_ ?_) | go_size
/-! ### comparing -/
theorem eqWhole_same (b : Bool) {a a2 : Option Addr} {n c n2 c2 : Nat} {zs : List Int} {w : World} (h : Sx w a n c zs) (h2 : Sx w a2 n2 c2 zs) : Calls Try.prog 23 #[.agg #[.bool b, .slice a n c], .agg #[.bool b, .slice a2 n2 c2]] w fun e w' => e = .returned (.bool true) ∧ Below w.heap.size w w' := by
  have T1 : ∀ W, Below w.heap.size w W → Calls Try.prog 39 #[.slice a n c, .slice a2 n2 c2] W fun e w' => e = .returned (.bool true) ∧ Below W.heap.size W w' := fun W hW => eqIntS_same (h.below hW) (h2.below hW)
  have hbb : (b != b) = false := by simp
  clear h h2
  have tok1 : True := trivial
  go_enter Try.func23, Try.ntmps23
  go_wp2_with (first | (have _t := tok1; go_at_call 39; (with_reducible refine ((T1 _ (by repeat' first | (with_reducible first | apply zRf | assumption | apply zDn | apply zDr | apply zAl | apply zSt | refine zVi (by assumption) ?_ ?_) | go_size))).mono ?_); rintro e w1 ⟨rfl, hb1⟩; clear tok1 _t; have hz1 := hb1.size; (try simp only [World.size_alloc, World.size_setCell, World.size_drew, World.size_drewN'] at hz1); (try (have kq := cellAt hb1 (w.heap.size) (by go_size); have k1_w_0_0 := kq 0; have k1_w_0_1 := kq 1; clear kq; have f1_w_0 := frozAt hb1 (w.heap.size) (by go_size); simp [go_sem, *] at k1_w_0_0 k1_w_0_1 f1_w_0)); (try have l1_w_0 : w.heap.size < w1.heap.size := by omega); (try (have kq := cellAt hb1 (w.heap.size + 1) (by go_size); have k1_w_1_0 := kq 0; have k1_w_1_1 := kq 1; clear kq; have f1_w_1 := frozAt hb1 (w.heap.size + 1) (by go_size); simp [go_sem, *] at k1_w_1_0 k1_w_1_1 f1_w_1)); (try have l1_w_1 : w.heap.size + 1 < w1.heap.size := by omega)))
  go_ret
  refine ⟨rfl, ?_⟩
  repeat' first | (with_reducible first | apply zRf | assumption | apply zDn | apply zDr | apply zAl | apply zSt | refine zVi (by assumption) ?_ ?_) | go_size
theorem eqRatio_same (b b' : Bool) {a a2 x x2 : Option Addr} {n c n2 c2 m d m2 d2 : Nat} {zs ys : List Int} {w : World} (h : Sx w a n c zs) (h2 : Sx w a2 n2 c2 zs) (g : Sx w x m d ys) (g2 : Sx w x2 m2 d2 ys) :
    Calls Try.prog 10 #[.agg #[.bool b, .slice a n c, .bool b', .slice x m d], .agg #[.bool b, .slice a2 n2 c2, .bool b', .slice x2 m2 d2]] w fun e w' => e = .returned (.bool true) ∧ Below w.heap.size w w' := by
  have T1 : ∀ W, Below w.heap.size w W → Calls Try.prog 23 #[.agg #[.bool b, .slice a n c], .agg #[.bool b, .slice a2 n2 c2]] W fun e w' => e = .returned (.bool true) ∧ Below W.heap.size W w' := fun W hW => eqWhole_same b (h.below hW) (h2.below hW)
  have T2 : ∀ W, Below w.heap.size w W → Calls Try.prog 23 #[.agg #[.bool b', .slice x m d], .agg #[.bool b', .slice x2 m2 d2]] W fun e w' => e = .returned (.bool true) ∧ Below W.heap.size W w' := fun W hW => eqWhole_same b' (g.below hW) (g2.below hW)
  clear h h2 g g2
  have tok1 : True := trivial
  have tok2 : True := trivial
  go_enter Try.func10, Try.ntmps10
  go_wp2_with (first | (first | (have _t := tok1; go_at_call 23; (with_reducible refine ((T1 _ (by repeat' first | (with_reducible first | apply zRf | assumption | apply zDn | apply zDr | apply zAl | apply zSt | refine zVi (by assumption) ?_ ?_) | go_size))).mono ?_); rintro e w1 ⟨rfl, hb1⟩; clear tok1 _t; have hz1 := hb1.size; (try simp only [World.size_alloc, World.size_setCell, World.size_drew, World.size_drewN'] at hz1); (try (have kq := cellAt hb1 (w.heap.size) (by go_size); have k1_w_0_0 := kq 0; have k1_w_0_1 := kq 1; have k1_w_0_2 := kq 2; have k1_w_0_3 := kq 3; clear kq; have f1_w_0 := frozAt hb1 (w.heap.size) (by go_size); simp [go_sem, *] at k1_w_0_0 k1_w_0_1 k1_w_0_2 k1_w_0_3 f1_w_0)); (try have l1_w_0 : w.heap.size < w1.heap.size := by omega); (try (have kq := cellAt hb1 (w.heap.size + 1) (by go_size); have k1_w_1_0 := kq 0; have k1_w_1_1 := kq 1; have k1_w_1_2 := kq 2; have k1_w_1_3 := kq 3; clear kq; have f1_w_1 := frozAt hb1 (w.heap.size + 1) (by go_size); simp [go_sem, *] at k1_w_1_0 k1_w_1_1 k1_w_1_2 k1_w_1_3 f1_w_1)); (try have l1_w_1 : w.heap.size + 1 < w1.heap.size := by omega)) | (have _t := tok2; go_at_call 23; (with_reducible refine ((T2 _ (by repeat' first | (with_reducible first | apply zRf | assumption | apply zDn | apply zDr | apply zAl | apply zSt | refine zVi (by assumption) ?_ ?_) | go_size))).mono ?_); rintro e w2 ⟨rfl, hb2⟩; clear tok2 _t; have hz2 := hb2.size; (try simp only [World.size_alloc, World.size_setCell, World.size_drew, World.size_drewN'] at hz2); (try (have kq := cellAt hb2 (w.heap.size) (by go_size); have k2_w_0_0 := kq 0; have k2_w_0_1 := kq 1; have k2_w_0_2 := kq 2; have k2_w_0_3 := kq 3; clear kq; have f2_w_0 := frozAt hb2 (w.heap.size) (by go_size); simp [go_sem, *] at k2_w_0_0 k2_w_0_1 k2_w_0_2 k2_w_0_3 f2_w_0)); (try have l2_w_0 : w.heap.size < w2.heap.size := by omega); (try (have kq := cellAt hb2 (w.heap.size + 1) (by go_size); have k2_w_1_0 := kq 0; have k2_w_1_1 := kq 1; have k2_w_1_2 := kq 2; have k2_w_1_3 := kq 3; clear kq; have f2_w_1 := frozAt hb2 (w.heap.size + 1) (by go_size); simp [go_sem, *] at k2_w_1_0 k2_w_1_1 k2_w_1_2 k2_w_1_3 f2_w_1)); (try have l2_w_1 : w.heap.size + 1 < w2.heap.size := by omega); (try clear k1_w_0_0 k1_w_0_1 k1_w_0_2 k1_w_0_3 f1_w_0); (try clear l1_w_0); (try clear k1_w_1_0 k1_w_1_1 k1_w_1_2 k1_w_1_3 f1_w_1); (try clear l1_w_1))))
  go_ret
  refine ⟨rfl, ?_⟩
  repeat' first | (with_reducible first | apply zRf | assumption | apply zDn | apply zDr | apply zAl | apply zSt | refine zVi (by assumption) ?_ ?_) | go_size
theorem eqRatioS_same {n : Nat} {v v2 : Value} {L : Nat → Bool × List Int} {w : World} (h : RdR w v n L) (h2 : RdR w v2 n L) (hn : n ≤ 1000000000) : Calls Try.prog 9 #[v, v2] w fun e w' => e = .returned (.bool true) ∧ Below w.heap.size w w' := by
  have e1 : ((n : Int) != (n : Int)) = false := by simp
  have HA := Lib.hid h
  have HA2 := Lib.hid h2
  obtain ⟨a, c, rfl, -, -⟩ := h.shape
  obtain ⟨a2, c2, rfl, -, -⟩ := h2.shape
  clear h h2
  have tok1 : True := trivial
  have tok2 : True := trivial
  have tok3 : True := trivial
  have tok4 : True := trivial
  have tok5 : True := trivial
  go_enter Try.func9, Try.ntmps9
  go_wp2_with fail
  go_loopw [5] (fun iv wr => ∃ k : Nat, iv = .int .i64 k ∧ k ≤ n ∧ Below w.heap.size w wr) (fun iv _ => (n - intOf iv).toNat)
  case atStart => exact ⟨0, rfl, by omega, Below.refl _ _⟩
  case round =>
    obtain ⟨k, rfl, hk, hb⟩ := hrel
    by_cases h0 : k < n
    · have hk2 : (k : Int) < (n : Int) := by omega
      rcases HA.out.below hb with ⟨-, h3⟩ | ⟨g, cap, h3, hnc, hcm, hgl, hat⟩
      · exfalso; omega
      rcases HA2.out.below hb with ⟨-, h4⟩ | ⟨g2, cap2, h4, hnc2, hcm2, hgl2, hat2⟩
      · exfalso; omega
      simp only [Value.slice.injEq] at h3 h4
      obtain ⟨rfl, h5, rfl⟩ := h3
      obtain ⟨rfl, h6, rfl⟩ := h4
      clear h5 h6
      unfold maxLen at hcm hcm2
      obtain ⟨x1, n1, c1, x2, n2, c2, k0, k1, k2, k3, s1, s2⟩ := hat k h0
      obtain ⟨y1, m1, d1, y2, m2, d2, j0, j1, j2, j3, r1, r2⟩ := hat2 k h0
      obtain ⟨z1, hz1⟩ : ∃ z, (L (2 * k)).2 = z := ⟨_, rfl⟩
      obtain ⟨z2, hz2⟩ : ∃ z, (L (2 * k + 1)).2 = z := ⟨_, rfl⟩
      obtain ⟨t1, ht1⟩ : ∃ z, (L (2 * k)).1 = z := ⟨_, rfl⟩
      obtain ⟨t2, ht2⟩ : ∃ z, (L (2 * k + 1)).1 = z := ⟨_, rfl⟩
      rw [ht1] at k0 j0
      rw [ht2] at k2 j2
      rw [hz1] at s1 r1
      rw [hz2] at s2 r2
      clear hz1 hz2 ht1 ht2 hat hat2
      have TE : ∀ W, Below wr.heap.size wr W → Calls Try.prog 10 #[.agg #[.bool t1, .slice x1 n1 c1, .bool t2, .slice x2 n2 c2], .agg #[.bool t1, .slice y1 m1 d1, .bool t2, .slice y2 m2 d2]] W fun e w' => e = .returned (.bool true) ∧ Below W.heap.size W w' := fun W hW => eqRatio_same t1 t2 (s1.below hW) (r1.below hW) (s2.below hW) (r2.below hW)
      have HC := Lib.hid (fun (W : World) (hW : Below wr.heap.size wr W) => (⟨(hW.cell (p := ⟨g, k * 4, none⟩) hgl).trans k0, (hW.cell (p := ⟨g, k * 4 + 1, none⟩) hgl).trans k1, (hW.cell (p := ⟨g, k * 4 + 2, none⟩) hgl).trans k2, (hW.cell (p := ⟨g, k * 4 + 3, none⟩) hgl).trans k3, (hW.cell (p := ⟨g2, k * 4, none⟩) hgl2).trans j0, (hW.cell (p := ⟨g2, k * 4 + 1, none⟩) hgl2).trans j1, (hW.cell (p := ⟨g2, k * 4 + 2, none⟩) hgl2).trans j2, (hW.cell (p := ⟨g2, k * 4 + 3, none⟩) hgl2).trans j3⟩ : W.cell? ⟨g, k * 4, none⟩ = some (.bool t1) ∧ W.cell? ⟨g, k * 4 + 1, none⟩ = some (.slice x1 n1 c1) ∧ W.cell? ⟨g, k * 4 + 2, none⟩ = some (.bool t2) ∧ W.cell? ⟨g, k * 4 + 3, none⟩ = some (.slice x2 n2 c2) ∧ W.cell? ⟨g2, k * 4, none⟩ = some (.bool t1) ∧ W.cell? ⟨g2, k * 4 + 1, none⟩ = some (.slice y1 m1 d1) ∧ W.cell? ⟨g2, k * 4 + 2, none⟩ = some (.bool t2) ∧ W.cell? ⟨g2, k * 4 + 3, none⟩ = some (.slice y2 m2 d2)))
      clear s1 s2 r1 r2
      go_wp2_with fail
      go_region_held3 (fun W => W.cell? ⟨g, k * 4, none⟩ = some (.bool t1) ∧ W.cell? ⟨g, k * 4 + 1, none⟩ = some (.slice x1 n1 c1) ∧ W.cell? ⟨g, k * 4 + 2, none⟩ = some (.bool t2) ∧ W.cell? ⟨g, k * 4 + 3, none⟩ = some (.slice x2 n2 c2) ∧ W.cell? ⟨g2, k * 4, none⟩ = some (.bool t1) ∧ W.cell? ⟨g2, k * 4 + 1, none⟩ = some (.slice y1 m1 d1) ∧ W.cell? ⟨g2, k * 4 + 2, none⟩ = some (.bool t2) ∧ W.cell? ⟨g2, k * 4 + 3, none⟩ = some (.slice y2 m2 d2)) (exact HC.out _ (by repeat' first | (with_reducible first | apply zRf | assumption | apply zDn | apply zDr | apply zAl | apply zSt | refine zVi (by assumption) ?_ ?_) | go_size)) (first | (have _t := tok4; go_at_call 10; refine ((TE _ (by repeat' first | (with_reducible first | apply zRf | assumption | apply zDn | apply zDr | apply zAl | apply zSt | refine zVi (by assumption) ?_ ?_) | go_size))).mono ?_; rintro e w4 ⟨rfl, hb4⟩; clear tok4 _t; have hz4 := hb4.size; (try simp only [World.size_alloc, World.size_setCell, World.size_drew, World.size_drewN'] at hz4)))
      go_wp2_with fail
      go_roundw
      case rel => exact ⟨k + 1, by go_num, by omega, below_via hb4 (below_via (by repeat' first | (with_reducible first | apply zRf | assumption | apply zDn | apply zDr | apply zAl | apply zSt | refine zVi (by assumption) ?_ ?_) | go_size) hb (by have := hb.size; omega)) (by have := hb.size; go_size)⟩
      case measure => simp [intOf]; omega
    · obtain rfl : k = n := by omega
      go_wp2_with fail
      go_ret
      exact ⟨rfl, hb⟩
end
section
open Go.RowKit
set_option linter.unusedVariables false
set_option maxHeartbeats 4000000
set_option maxRecDepth 20000
set_option linter.unusedSimpArgs false
theorem grown_alloc {w w1 : World} {X : Obj} {row : Option Nat} (h : (w.alloc X).grownBy w1 row) : w.grownBy w1 row :=
  ⟨h.os, h.tape, h.output, by have := h.size; simp at this; omega, fun i hi hne => (h.block i (by simp; omega) hne).trans (((Below.refl w.heap.size w).alloc (Nat.le_refl _) X).block i hi)⟩
theorem markI {a : Option Addr} {n c B : Nat} {zs : List Int} {k : Int} {w : World} (h : OwS w B a n c zs) (h0 : 0 ≤ k) (h1 : k ≤ 1000000000) (hn : n ≤ 1000000000) : Calls Try.prog 25 #[.slice a n c, .int .i64 k] w fun e w' => e = .returned (.int .i64 (k + n)) ∧ OwS w' B a n c (marks k n) ∧ w.grownBy w' (Value.slice a n c).ownBlock := by
  have e := h.len
  have := markIntS_any (v := .slice a n c) h h0 h1 (by omega)
  rwa [e] at this
/-- memory is kept but for blocks from B to C -/
structure Kept (B C : Nat) (w w' : World) : Prop where
  os : w'.os = w.os
  tape : w'.tape = w.tape
  output : w'.output = w.output
  size : w.heap.size ≤ w'.heap.size
  block : ∀ i, i < w.heap.size → (i < B ∨ C ≤ i) → w'.heap[i]? = w.heap[i]?
theorem Kept.below {B C : Nat} {w w' : World} (h : Kept B C w w') (hB : B ≤ w.heap.size) : Below B w w' := ⟨h.os, h.tape, h.output, h.size, fun i hi => h.block i (by omega) (.inl hi)⟩
theorem Kept.ownW {B C B2 n : Nat} {w w' : World} {v : Value} {M : List WV} (h : Kept B C w w') (ho : OwnW w B2 v n M) (hC : C ≤ B2) : OwnW w' B2 v n M := ho.keepB fun i hi hl => h.block i hl (.inr (by omega))
theorem markWhole_any {b : Bool} {a : Option Addr} {n c B : Nat} {zs : List Int} {k : Int} {w : World} (h : OwS w B a n c zs) (h0 : 0 ≤ k) (h1 : k ≤ 1000000000) (hn : n ≤ 1000000000) : Calls Try.prog 24 #[.agg #[.bool b, .slice a n c], .int .i64 k] w fun e w' => e = .returned (.int .i64 (k + n)) ∧ w.grownBy w' (Value.slice a n c).ownBlock := by
  go_enter Try.func24, Try.ntmps24
  go_wp2_with (first | (first | (go_at_call 25; (with_reducible refine ((markI (h.alloc _) h0 h1 hn)).mono ?_); rintro e w1 ⟨rfl, ho1, hg1⟩)))
  go_ret
  exact ⟨rfl, grown_alloc hg1⟩
theorem markRatio_any {b b2 : Bool} {a a2 : Option Addr} {n c n2 c2 B C : Nat} {zs ys : List Int} {k : Int} {w : World} (h : OwS w B a n c zs) (h2 : OwS w B a2 n2 c2 ys) (hC1 : ∀ A, a = some A → A.block < C) (hC2 : ∀ A, a2 = some A → A.block < C) (hf : farA a a2) (h0 : 0 ≤ k) (h1 : k ≤ 1000000) (hn : n ≤ 2000000) (hn2 : n2 ≤ 2000000) :
    Calls Try.prog 11 #[.agg #[.bool b, .slice a n c, .bool b2, .slice a2 n2 c2], .int .i64 k] w fun e w' => e = .returned (.int .i64 (k + n + n2)) ∧ Kept B C w w' := by
  go_enter Try.func11, Try.ntmps11
  go_upto_region 2 with (first | (first | (go_at_call 24; (with_reducible refine ((markWhole_any (h.alloc _) h0 (by omega) (by omega))).mono ?_); rintro e w1 ⟨rfl, hg1⟩)))
  have hF : ∀ A, a2 = some A → some A.block ≠ (Value.slice a n c).ownBlock := fun A e e2 => by
    cases a with
    | none => cases e2
    | some D => exact hf D A rfl e (Option.some.inj e2).symm
  have ho2 : OwS w1 B a2 n2 c2 ys := (h2.alloc _).keepG fun A e => hg1.block A.block ((h2.alloc _).lies A e).2 (hF A e)
  have hbox : w1.heap[w.heap.size]? = some (.cells #[.bool b, .slice a n c, .bool b2, .slice a2 n2 c2] 37 (0, 0)) := (hg1.block _ (by simp) (fun e => by
    cases a with
    | none => cases e
    | some D => have := (h.lies D rfl).2; have := Option.some.inj e; omega)).trans (heap_alloc_new w _)
  have hk2 : w1.cell? ⟨w.heap.size, 2, none⟩ = some (.bool b2) := blk_cell hbox 2
  have hk3 : w1.cell? ⟨w.heap.size, 3, none⟩ = some (.slice a2 n2 c2) := blk_cell hbox 3
  go_wp2_with (first | (first | (go_at_call 24; (with_reducible refine ((markWhole_any ho2 (by omega) (by omega) (by omega))).mono ?_); rintro e w2 ⟨rfl, hg2⟩)))
  go_ret
  refine ⟨rfl, hg2.os.trans hg1.os, hg2.tape.trans hg1.tape, hg2.output.trans hg1.output, ?_, fun i hi hc => ?_⟩
  · have := hg1.size; have := hg2.size; simp only [World.size_alloc] at *; omega
  · have n1 : some i ≠ (Value.slice a n c).ownBlock := fun e => by
      cases a with
      | none => cases e
      | some D => have := h.lies D rfl; have := hC1 D rfl; have := Option.some.inj e; omega
    have n2 : some i ≠ (Value.slice a2 n2 c2).ownBlock := fun e => by
      cases a2 with
      | none => cases e
      | some D => have := h2.lies D rfl; have := hC2 D rfl; have := Option.some.inj e; omega
    exact (hg2.block i (by have := hg1.size; simp only [World.size_alloc] at this; omega) n2).trans ((grown_alloc hg1).block i hi n1)
def lenM (M : List WV) (j : Nat) : Nat := (M[j]?.getD wv0).len
/-- the marks' row, one more flag or row of digits -/
theorem mkL_len {M : List WV} {i j : Nat} {f : WV → WV} (hf : ∀ p, (f p).len = p.len) (hj : j < M.length) : ((M.modify i f)[j]?.getD wv0).len = (M[j]?.getD wv0).len := by
  rw [modify_getD hj]; split
  · exact hf _
  · rfl
theorem wvL_other {M : List WV} {i j : Nat} {f : WV → WV} (hj : j < M.length) (hne : i ≠ j) : wvL (M.modify i f) j = wvL M j := by
  unfold wvL; rw [modify_getD hj, if_neg hne]
def MrRel (w : World) (B : Nat) (v : Value) (k : Int) (l : Nat → Nat) (n : Nat) (iv kv : Value) (wr : World) : Prop := ∃ (j : Nat) (M : List WV), iv = .int .i64 j ∧ kv = .int .i64 (mkK k l (2 * j)) ∧ j ≤ n ∧ OwnW wr B v n M ∧ (∀ i, i < M.length → (M[i]?.getD wv0).len = l i) ∧ (∀ i, i < 2 * j → wvL M i = mkL k l i) ∧ Below B w wr
theorem markRatioS_any {v : Value} {B n : Nat} {M : List WV} {k : Int} {w : World} (h : OwnW w B v n M) (h0 : 0 ≤ k) (h1 : k ≤ 1000) (hn : n ≤ 5) (hl : ∀ j, j < M.length → (M[j]?.getD wv0).len ≤ 1000) :
    Calls Try.prog 12 #[v, .int .i64 k] w fun e w' => e = .returned (.int .i64 (mkK k (lenM M) (2 * n))) ∧ (∃ M', OwnW w' B v n M' ∧ ∀ j, j < 2 * n → wvL M' j = mkL k (lenM M) j) ∧ Below B w w' := by
  have hK0 := Lib.hid (fun j => mkK_pos (k := k) (l := lenM M) h0 j)
  have hcM := h.cnt
  have hK1 := Lib.hid (fun j (hj : j ≤ 2 * n) => mkK_le (k := k) (l := lenM M) (C := 1000) (m := 2 * n) (fun j hj => hl j (by omega)) j hj)
  have hL := Lib.hid (fun j (hj : j < 2 * n) => hl j (by omega))
  have hM0 := Lib.hid (show ∀ i, i < M.length → (M[i]?.getD wv0).len = lenM M i from fun i _ => rfl)
  have hLL := Lib.hid (fun j (hj : j < 2 * n) => (show lenM M j ≤ 1000 from hL.out j hj))
  clear hL hl
  generalize (lenM M) = l at *
  have HH := Lib.hid h
  obtain ⟨a, c, hvs, -, -⟩ := h.rd.shape
  subst hvs
  clear h
  go_enter Try.func12, Try.ntmps12
  go_wp2_with fail
  go_loopw [5, 1] (fun iv kv wr => MrRel w B (.slice a n c) k l n iv kv wr) (fun iv _ _ => (n - intOf iv).toNat)
  case atStart => exact ⟨0, M, rfl, rfl, by omega, HH.out, hM0.out, fun i hi => absurd hi (by omega), Below.refl _ _⟩
  case round =>
    clear HH hM0 hcM
    obtain ⟨j, M, rfl, rfl, hj, how, hlen, hmk, hb⟩ := hrel
    have HW := Lib.hid how
    have HN := Lib.hid hlen
    have HK := Lib.hid hmk
    clear how hlen hmk
    by_cases hlt : j < n
    · have hk2 : (j : Int) < (n : Int) := by omega
      have hcnt := HW.out.cnt
      rcases HW.out.shape with ⟨h3, h4⟩ | ⟨g, cap, h3, hnc, hcm, hB, hgl, hcl, hfz, -⟩
      · exfalso; omega
      simp only [Value.slice.injEq] at h3
      obtain ⟨rfl, h5, rfl⟩ := h3
      clear h5
      unfold maxLen at hcm
      have p0 := hK0.out (2 * j)
      have p1 := hK1.out (2 * j) (by omega)
      have l0 := hLL.out (2 * j) (by omega)
      have l1 := hLL.out (2 * j + 1) (by omega)
      have q0 : mkK k l (2 * j + 1) = mkK k l (2 * j) + 1 + l (2 * j) := rfl
      have q1 : mkK k l (2 * j + 2) = mkK k l (2 * j + 1) + 1 + l (2 * j + 1) := rfl
      have L0 := Lib.hid (show mkL k l (2 * j) = (mkK k l (2 * j) % 3 == 0, marks (mkK k l (2 * j) + 1) (l (2 * j))) from rfl)
      have L1 := Lib.hid (show mkL k l (2 * j + 1) = (mkK k l (2 * j + 1) % 3 == 0, marks (mkK k l (2 * j + 1) + 1) (l (2 * j + 1))) from rfl)
      generalize mkK k l (2 * j) = K at *
      generalize mkK k l (2 * j + 1) = K1 at *
      subst q0
      have pb : K ≤ 100000 := by omega
      have f0 := hfz (j * 4)
      obtain ⟨d0, -⟩ := hcl (2 * j) (by omega)
      rw [show 2 * j * 2 = j * 4 by omega] at d0
      clear hcl p1
      go_upto_region 5 with fail
      have r1 : OwnW (wr.setCell ⟨g, j * 4, none⟩ (.bool (K % 3 == 0))) B (.slice (some ⟨g, 0, none⟩) n c) n (M.modify (2 * j) fun p => { p with neg := K % 3 == 0 }) := by
        have := HW.out.flag (j := 2 * j) (by omega) (K % 3 == 0)
        rwa [show 2 * j * 2 = j * 4 by omega] at this
      refine chk (fun W => OwnW W B (.slice (some ⟨g, 0, none⟩) n c) n (M.modify (2 * j) fun p => { p with neg := K % 3 == 0 }) ∧ Below B w W) ⟨r1, ?_⟩ ?_
      · repeat' first | (with_reducible first | apply zRf | assumption | apply zDn | apply zDr | apply zAl | apply zSt | refine zVi (by assumption) ?_ ?_) | go_size
      rintro w1 ⟨how1, hb1⟩
      obtain ⟨M1, hM1⟩ : ∃ M1, (M.modify (2 * j) fun p => { p with neg := K % 3 == 0 }) = M1 := ⟨_, rfl⟩
      have c1 : M1.length = 2 * n := by rw [← hM1]; simpa using hcnt
      have ln1 := Lib.hid (show ∀ i, i < M1.length → (M1[i]?.getD wv0).len = l i from fun i hi => by rw [← hM1] at hi ⊢; rw [List.length_modify] at hi; exact (mkL_len (f := fun p => { p with neg := K % 3 == 0 }) (fun _ => rfl) hi).trans (HN.out i hi))
      have mk1 := Lib.hid (show ∀ i, i < 2 * j → wvL M1 i = mkL k l i from fun i hi => by rw [← hM1]; exact (wvL_other (by omega) (by omega)).trans (HK.out i hi))
      have ng1 := Lib.hid (show (M1[2 * j]?.getD wv0).neg = (K % 3 == 0) by rw [← hM1, modify_getD (by omega), if_pos rfl])
      rw [hM1] at how1
      have HW1 := Lib.hid how1
      clear hM1 how1 HW HN HK r1 f0 d0 hfz hb hgl
      rcases HW1.out.shape with ⟨h3, h4⟩ | ⟨g', cap', h3, hnc', hcm', hB', hgl, hcl, hfz, -⟩
      · exfalso; omega
      simp only [Value.slice.injEq, Option.some.injEq, Addr.mk.injEq, and_true, true_and] at h3
      obtain ⟨rfl, rfl⟩ := h3
      clear hcm' hnc' hB'
      obtain ⟨-, d1⟩ := hcl (2 * j) (by omega)
      rw [show 2 * j * 2 + 1 = j * 4 + 1 by omega] at d1
      have hoi := HW1.out.own (2 * j) (by omega)
      have hle := ln1.out (2 * j) (by omega)
      have HDG := Lib.hid (fun (W2 : World) (z : List Int) => HW1.out.digits (W2 := W2) (j := 2 * j) (by omega) (z := z))
      obtain ⟨x1, hx1⟩ : ∃ x, (M1[2 * j]?.getD wv0).ad = x := ⟨_, rfl⟩
      obtain ⟨y1, hy1⟩ : ∃ x, (M1[2 * j]?.getD wv0).cap = x := ⟨_, rfl⟩
      obtain ⟨z1, hz1⟩ : ∃ x, (M1[2 * j]?.getD wv0).zs = x := ⟨_, rfl⟩
      obtain ⟨n1, hn1⟩ : ∃ x, l (2 * j) = x := ⟨_, rfl⟩
      simp only [hx1, hy1, hle, hn1] at d1 HDG
      rw [hx1, hy1, hz1, hle, hn1] at hoi
      rw [hn1] at l0
      simp only [hn1] at pb q1 L0 L1
      clear hx1 hy1 hz1 hle hcl
      have hs1 := hb1.size
      have hgb : B ≤ w1.heap.size := by omega
      go_upto_region 7 with (first | (first | (go_at_call 25; (with_reducible refine ((markI hoi (by omega) (by omega) (by omega))).mono ?_); rintro e w2 ⟨rfl, ho2, hg2⟩)))
      have how2 := HDG.out w2 _ ho2 hg2
      have hb2 : Below B w w2 := hb1.grown hg2 hgb (fun i e => by
        cases x1 with
        | none => cases e
        | some D => have := (hoi.lies D rfl).1; have := Option.some.inj e; omega)
      clear ho2 hg2 HDG hoi d1 hfz hgl
      refine chk (fun W => OwnW W B (.slice (some ⟨g, 0, none⟩) n c) n (M1.modify (2 * j) fun p => { p with zs := marks (K + 1) n1 }) ∧ Below B w W) ⟨how2, hb2⟩ ?_
      clear how2 hb2
      rintro w3 ⟨how3, hb3⟩
      obtain ⟨M3, hM3⟩ : ∃ M3, (M1.modify (2 * j) fun p => { p with zs := marks (K + 1) n1 }) = M3 := ⟨_, rfl⟩
      have c3 : M3.length = 2 * n := by rw [← hM3]; simpa using c1
      have ln3 := Lib.hid (show ∀ i, i < M3.length → (M3[i]?.getD wv0).len = l i from fun i hi => by rw [← hM3] at hi ⊢; rw [List.length_modify] at hi; exact (mkL_len (f := fun p => { p with zs := marks (K + 1) n1 }) (fun _ => rfl) hi).trans (ln1.out i hi))
      have mk3 := Lib.hid (show ∀ i, i < 2 * j + 1 → wvL M3 i = mkL k l i from fun i hi => by
        rw [← hM3]
        by_cases e : i = 2 * j
        · subst e
          rw [L0.out]
          unfold wvL
          rw [modify_getD (by omega), if_pos rfl, ng1.out]
        · exact (wvL_other (by omega) (by omega)).trans (mk1.out i (by omega)))
      rw [hM3] at how3
      have HW3 := Lib.hid how3
      clear hM3 how3 HW1 ln1 mk1 ng1 L0 hb1 hs1 hgb c1
      rcases HW3.out.shape with ⟨h3, h4⟩ | ⟨g', cap', h3, hnc', hcm', hB', hgl, hcl, hfz, -⟩
      · exfalso; omega
      simp only [Value.slice.injEq, Option.some.injEq, Addr.mk.injEq, and_true, true_and] at h3
      obtain ⟨rfl, rfl⟩ := h3
      clear hcm' hnc' hB'
      obtain ⟨K1, hK1e⟩ : ∃ K1, K + 1 + (n1 : Int) = K1 := ⟨_, rfl⟩
      have p1 : 0 ≤ K1 := by omega
      have pb1 : K1 ≤ 102000 := by omega
      have hv9 := hK1e
      rw [hK1e] at q1 L1
      have f0 := hfz (j * 4 + 2)
      obtain ⟨d0, -⟩ := hcl (2 * j + 1) (by omega)
      rw [show (2 * j + 1) * 2 = j * 4 + 2 by omega] at d0
      rw [hv9]
      clear hv9 hcl pb p0
      go_upto_region 8 with fail
      have r1 : OwnW (w3.setCell ⟨g, j * 4 + 2, none⟩ (.bool (K1 % 3 == 0))) B (.slice (some ⟨g, 0, none⟩) n c) n (M3.modify (2 * j + 1) fun p => { p with neg := K1 % 3 == 0 }) := by
        have := HW3.out.flag (j := 2 * j + 1) (by omega) (K1 % 3 == 0)
        rwa [show (2 * j + 1) * 2 = j * 4 + 2 by omega] at this
      refine chk (fun W => OwnW W B (.slice (some ⟨g, 0, none⟩) n c) n (M3.modify (2 * j + 1) fun p => { p with neg := K1 % 3 == 0 }) ∧ Below B w W) ⟨r1, ?_⟩ ?_
      · repeat' first | (with_reducible first | apply zRf | assumption | apply zDn | apply zDr | apply zAl | apply zSt | refine zVi (by assumption) ?_ ?_) | go_size
      rintro w5 ⟨how5, hb5⟩
      obtain ⟨M5, hM5⟩ : ∃ M5, (M3.modify (2 * j + 1) fun p => { p with neg := K1 % 3 == 0 }) = M5 := ⟨_, rfl⟩
      have c5 : M5.length = 2 * n := by rw [← hM5]; simpa using c3
      have ln5 := Lib.hid (show ∀ i, i < M5.length → (M5[i]?.getD wv0).len = l i from fun i hi => by rw [← hM5] at hi ⊢; rw [List.length_modify] at hi; exact (mkL_len (f := fun p => { p with neg := K1 % 3 == 0 }) (fun _ => rfl) hi).trans (ln3.out i hi))
      have mk5 := Lib.hid (show ∀ i, i < 2 * j + 1 → wvL M5 i = mkL k l i from fun i hi => by rw [← hM5]; exact (wvL_other (by omega) (by omega)).trans (mk3.out i (by omega)))
      have ng5 := Lib.hid (show (M5[2 * j + 1]?.getD wv0).neg = (K1 % 3 == 0) by rw [← hM5, modify_getD (by omega), if_pos rfl])
      rw [hM5] at how5
      have HW5 := Lib.hid how5
      clear hM5 how5 HW3 ln3 mk3 r1 f0 d0 hfz hb3 hgl
      rcases HW5.out.shape with ⟨h3, h4⟩ | ⟨g', cap', h3, hnc', hcm', hB', hgl, hcl, hfz, -⟩
      · exfalso; omega
      simp only [Value.slice.injEq, Option.some.injEq, Addr.mk.injEq, and_true, true_and] at h3
      obtain ⟨rfl, rfl⟩ := h3
      clear hcm' hnc' hB'
      obtain ⟨-, d1⟩ := hcl (2 * j + 1) (by omega)
      rw [show (2 * j + 1) * 2 + 1 = j * 4 + 3 by omega] at d1
      have hoi3 := HW5.out.own (2 * j + 1) (by omega)
      have hle := ln5.out (2 * j + 1) (by omega)
      have HDG := Lib.hid (fun (W2 : World) (z : List Int) => HW5.out.digits (W2 := W2) (j := 2 * j + 1) (by omega) (z := z))
      obtain ⟨x1, hx1⟩ : ∃ x, (M5[2 * j + 1]?.getD wv0).ad = x := ⟨_, rfl⟩
      obtain ⟨y1, hy1⟩ : ∃ x, (M5[2 * j + 1]?.getD wv0).cap = x := ⟨_, rfl⟩
      obtain ⟨z1, hz1⟩ : ∃ x, (M5[2 * j + 1]?.getD wv0).zs = x := ⟨_, rfl⟩
      obtain ⟨n3, hn3⟩ : ∃ x, l (2 * j + 1) = x := ⟨_, rfl⟩
      simp only [hx1, hy1, hle, hn3] at d1 HDG
      rw [hx1, hy1, hz1, hle, hn3] at hoi3
      rw [hn3] at l1
      simp only [hn3] at q1 L1
      clear hx1 hy1 hz1 hle hcl
      have hs1 := hb5.size
      have hgb : B ≤ w5.heap.size := by omega
      have hQ := Lib.hid (show K1 + 1 + (n3 : Int) = mkK k l (2 * (j + 1)) by rw [show 2 * (j + 1) = 2 * j + 2 by omega]; omega)
      clear q1 hK1e
      go_wp2_with (first | (first | (go_at_call 25; (with_reducible refine ((markI hoi3 (by omega) (by omega) (by omega))).mono ?_); rintro e w4 ⟨rfl, ho4, hg4⟩)))
      have how4 := HDG.out w4 _ ho4 hg4
      have hb4 : Below B w w4 := hb5.grown hg4 hgb (fun i e => by
        cases x1 with
        | none => cases e
        | some D => have := (hoi3.lies D rfl).1; have := Option.some.inj e; omega)
      go_roundw
      case rel =>
        refine ⟨j + 1, M5.modify (2 * j + 1) fun p => { p with zs := marks (K1 + 1) n3 }, by go_num, by rw [← hQ.out], by omega, how4, fun i hi => ?_, fun i hi => ?_, hb4⟩
        · rw [List.length_modify] at hi
          exact (mkL_len (f := fun p => { p with zs := marks (K1 + 1) n3 }) (fun _ => rfl) hi).trans (ln5.out i hi)
        · by_cases e : i = 2 * j + 1
          · subst e
            rw [L1.out]
            unfold wvL
            rw [modify_getD (by omega), if_pos rfl, ng5.out]
          · exact (wvL_other (by omega) (by omega)).trans (mk5.out i (by omega))
      case measure => simp [intOf]; omega
    · obtain rfl : j = n := by omega
      go_wp2_with fail
      go_ret
      exact ⟨rfl, ⟨M, HW.out, HK.out⟩, hb⟩
theorem heldRatioS_any {v : Value} {n : Nat} {k : Int} {l : Nat → Nat} {w : World} (h : RdR w v n (mkL k l)) (h0 : 0 ≤ k) (h1 : k ≤ 1000) (hn : n ≤ 5) (hl : ∀ j, j < 2 * n → l j ≤ 1000) :
    Calls Try.prog 13 #[v, .int .i64 k] w fun e w' => e = .returned (.int .i64 (mkK k l (2 * n))) ∧ Below w.heap.size w w' := by
  have hK0 := Lib.hid (fun j => mkK_pos (k := k) (l := l) h0 j)
  have hK1 := Lib.hid (fun j (hj : j ≤ 2 * n) => mkK_le (k := k) (l := l) (C := 1000) (m := 2 * n) hl j hj)
  have hLL := Lib.hid hl
  have HH := Lib.hid h
  obtain ⟨a, c, hvs, -, -⟩ := h.shape
  subst hvs
  clear h hl
  have tok1 : True := trivial
  have tok2 : True := trivial
  have tok3 : True := trivial
  have tok4 : True := trivial
  go_enter Try.func13, Try.ntmps13
  go_wp2_with fail
  go_loopw [5, 1] (fun iv kv wr => ∃ j : Nat, iv = .int .i64 j ∧ kv = .int .i64 (mkK k l (2 * j)) ∧ j ≤ n ∧ Below w.heap.size w wr) (fun iv _ _ => (n - intOf iv).toNat)
  case atStart => exact ⟨0, rfl, rfl, by omega, Below.refl _ _⟩
  case round =>
    obtain ⟨j, rfl, rfl, hj, hb⟩ := hrel
    by_cases hlt : j < n
    · have hk2 : (j : Int) < (n : Int) := by omega
      rcases HH.out.below hb with ⟨h3, h4⟩ | ⟨g, cap, h3, hnc, hcm, hgl, hcl⟩
      · exfalso; omega
      simp only [Value.slice.injEq] at h3
      obtain ⟨rfl, h5, rfl⟩ := h3
      clear h5
      unfold maxLen at hcm
      obtain ⟨x1, n1, c1, x2, n2, c2, k0, k1, k2, k3, s1, s2⟩ := hcl j hlt
      have p0 := hK0.out (2 * j)
      have p1 := hK1.out (2 * j) (by omega)
      have l0 := hLL.out (2 * j) (by omega)
      have l1 := hLL.out (2 * j + 1) (by omega)
      have q0 : mkK k l (2 * j + 1) = mkK k l (2 * j) + 1 + l (2 * j) := rfl
      have q1 : mkK k l (2 * j + 2) = mkK k l (2 * j + 1) + 1 + l (2 * j + 1) := rfl
      have e1 : l (2 * j) = n1 := by have := s1.len; simpa [mkL, marks_len] using this
      have e2 : l (2 * j + 1) = n2 := by have := s2.len; simpa [mkL, marks_len] using this
      simp only [mkL, e1, e2] at k0 k2 s1 s2
      rw [e1] at q0 l0
      rw [e2] at q1 l1
      obtain ⟨K, hK⟩ : ∃ K, mkK k l (2 * j) = K := ⟨_, rfl⟩
      obtain ⟨K1, hK1e⟩ : ∃ y, K + 1 + (n1 : Int) = y := ⟨_, rfl⟩
      rw [hK, hK1e] at q0
      rw [q0] at q1 k2 s2
      rw [hK] at k0 s1 p0 p1
      have pb : K ≤ 100000 := by omega
      have hQ := Lib.hid (show K1 + 1 + (n2 : Int) = mkK k l (2 * (j + 1)) by rw [show 2 * (j + 1) = 2 * j + 2 by omega]; omega)
      have hbb : ∀ b : Bool, (b != b) = false := fun b => by simp
      have d1 : decide (K1 < 0) = false := by simp; omega
      have d2 : decide (K1 + 1 + (n2 : Int) < 0) = false := by simp; omega
      have T1 : ∀ W, Below wr.heap.size wr W → Calls Try.prog 26 #[.slice x1 n1 c1, .int .i64 (K + 1)] W fun e w' => e = .returned (.int .i64 K1) ∧ Below W.heap.size W w' := fun W hW => hK1e ▸ heldIntS_any (s1.below hW) (by omega) (by omega) (by omega)
      have T2 : ∀ W, Below wr.heap.size wr W → Calls Try.prog 26 #[.slice x2 n2 c2, .int .i64 (K1 + 1)] W fun e w' => e = .returned (.int .i64 (K1 + 1 + n2)) ∧ Below W.heap.size W w' := fun W hW => heldIntS_any (s2.below hW) (by omega) (by omega) (by omega)
      have p1' : 0 ≤ K1 := by omega
      have pb1 : K1 ≤ 102000 := by omega
      rw [hK]
      clear hcl q0 q1 e1 e2 s1 s2 hK p1 hK1e
      go_upto_region 8 with (first | (first | (have _t := tok1; go_at_call 26; (with_reducible refine ((T1 _ (by repeat' first | (with_reducible first | apply zRf | assumption | apply zDn | apply zDr | apply zAl | apply zSt | refine zVi (by assumption) ?_ ?_) | go_size))).mono ?_); rintro e w1 ⟨rfl, hb1⟩; clear tok1 _t; have hz1 := hb1.size; (try simp only [World.size_alloc, World.size_setCell, World.size_drew, World.size_drewN'] at hz1)) | (have _t := tok2; go_at_call 26; (with_reducible refine ((T2 _ (by repeat' first | (with_reducible first | apply zRf | assumption | apply zDn | apply zDr | apply zAl | apply zSt | refine zVi (by assumption) ?_ ?_) | go_size))).mono ?_); rintro e w2 ⟨rfl, hb2⟩; clear tok2 _t; have hz2 := hb2.size; (try simp only [World.size_alloc, World.size_setCell, World.size_drew, World.size_drewN'] at hz2))))
      have j2 := (hb1.cell (p := ⟨g, j * 4 + 2, none⟩) hgl).trans k2
      have j3 := (hb1.cell (p := ⟨g, j * 4 + 3, none⟩) hgl).trans k3
      have hsz1 := hb1.size
      clear k0 k1 k2 k3
      go_wp2_with (first | (first | (have _t := tok1; go_at_call 26; (with_reducible refine ((T1 _ (by repeat' first | (with_reducible first | apply zRf | assumption | apply zDn | apply zDr | apply zAl | apply zSt | refine zVi (by assumption) ?_ ?_) | go_size))).mono ?_); rintro e w1 ⟨rfl, hb1⟩; clear tok1 _t; have hz1 := hb1.size; (try simp only [World.size_alloc, World.size_setCell, World.size_drew, World.size_drewN'] at hz1)) | (have _t := tok2; go_at_call 26; (with_reducible refine ((T2 _ (by repeat' first | (with_reducible first | apply zRf | assumption | apply zDn | apply zDr | apply zAl | apply zSt | refine zVi (by assumption) ?_ ?_) | go_size))).mono ?_); rintro e w2 ⟨rfl, hb2⟩; clear tok2 _t; have hz2 := hb2.size; (try simp only [World.size_alloc, World.size_setCell, World.size_drew, World.size_drewN'] at hz2))))
      go_roundw
      case rel => exact ⟨j + 1, by go_num, by rw [← hQ.out], by omega, below_via hb2 (below_via hb1 hb hb.size) (by have := hb.size; omega)⟩
      case measure => simp [intOf]; omega
    · obtain rfl : j = n := by omega
      go_wp2_with fail
      go_ret
      exact ⟨rfl, hb⟩
end
end Go.Proofs.Ytijpfnkhaldfeaa
