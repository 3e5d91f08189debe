/- Lemmas and contracts of functions. No condition. -/
import Derived.Test.YtgjppinjapdbeaaGreatPk1
import Derived.Test.YtgjppinjapdbeaaGreatPk4
import Derived.Test.YtgjppinjapdbeaaGreatPk5
import Derived.Test.YtgjppinjapdbeaaGreatPk11
import Derived.Test.YtgjppinjapdbeaaGreatPk20
import Derived.Test.YtgjppinjapdbeaaGreatPk22
import Derived.Test.YtgjppinjapdbeaaGreatProg
namespace Go.Proofs.YtgjppinjapdbeaaGreat
section
open Go.RowKit
set_option linter.unusedVariables false
set_option maxHeartbeats 4000000
set_option linter.unusedSimpArgs false

theorem floorOf_any (a b : Int) (w : World) (hb : 0 < b) (h1 : -9223372036854775000 ≤ a) (h2 : a ≤ 9223372036854775000) : Calls Tryz.prog 82 #[.int .i64 a, .int .i64 b] w fun e w' => e = .returned (.int .i64 (down a b)) ∧ w = w' := by
  have hq := tdiv_bd a b
  have hd := down_of a b hb
  have hne : b ≠ 0 := by omega
  go_enter Tryz.func82, Tryz.ntmps82
  go_wp2
  · have h : a.tmod b < 0 := by assumption
    rw [if_pos h] at hd
    go_ret
    exact ⟨ret_int hd, rfl⟩
  · have h : 0 ≤ a.tmod b := by assumption
    rw [if_neg (by omega)] at hd
    go_ret
    exact ⟨ret_int hd, rfl⟩
theorem frDown_any (a b : Int) (w : World) (hb : 0 < b) (h1 : -9223372036854775000 ≤ a) (h2 : a ≤ 9223372036854775000) : Calls Tryz.prog 103 #[.int .i64 a, .int .i64 b] w fun e w' => e = .returned (.int .i64 (down a b)) ∧ w = w' := by
  have hq := tdiv_bd a b
  have hd := down_of a b hb
  go_enter Tryz.func103, Tryz.ntmps103
  go_wp2
  · have h : a.tmod b < 0 := by assumption
    rw [if_pos h] at hd
    go_ret
    exact ⟨ret_int hd, rfl⟩
  · have h : 0 ≤ a.tmod b := by assumption
    rw [if_neg (by omega)] at hd
    go_ret
    exact ⟨ret_int hd, rfl⟩
theorem makeFraction_any (n d : Int) (w : World) (hd : d ≠ 0) (h1 : -9223372036854775807 ≤ n) (h2 : n ≤ 9223372036854775807) (h3 : -9223372036854775807 ≤ d) (h4 : d ≤ 9223372036854775807) :
    Calls Tryz.prog 28 #[.int .i64 n, .int .i64 d] w fun e w' => e = .returned (.tuple #[.agg #[.int .i64 (mkF n d).1, .int .i64 (mkF n d).2.1], .bool (mkF n d).2.2]) ∧ Below w.heap.size w w' := by
  have hg := gcdI_pos (a := n) hd
  have hg2 : gcdI n d ≤ 9223372036854775807 := by
    have := gcdI_le (a := n) hd
    unfold absI at this; omega
  by_cases hneg : d < 0
  · have q1 := tdiv_bd n (gcdI n d)
    have q2 := tdiv_bd d (gcdI n d)
    have HN := Lib.hid (show mkN n d = -(n.tdiv (gcdI n d)) by simp [mkN, hneg])
    have HD := Lib.hid (show mkD n d = -(d.tdiv (gcdI n d)) by simp [mkD, hneg])
    have tok1 : True := trivial
    go_enter Tryz.func28, Tryz.ntmps28
    go_wp2_with (first | (go_at_call 43; refine (gcd_any _ _ _ (by omega) (by omega) (by omega) (by omega)).mono ?_; rintro e w' ⟨rfl, nq, rfl⟩) | (have _t := tok1; go_at_call 49; refine (isFraction_any _ _ _).mono ?_; rintro e w1 ⟨rfl, hb1⟩; clear tok1 _t; have hz1 := hb1.size; (try simp only [World.size_alloc, World.size_setCell, World.size_drew, World.size_drewN'] at hz1); (try (have kq := cellAt hb1 (w.heap.size) (by go_size); have k1_w_0_0 := kq 0; have k1_w_0_1 := kq 1; clear kq; have f1_w_0 := frozAt hb1 (w.heap.size) (by go_size); simp [go_sem, *] at k1_w_0_0 k1_w_0_1 f1_w_0)); (try have l1_w_0 : w.heap.size < w1.heap.size := by omega); (try (have kq := cellAt hb1 (w.heap.size + 1) (by go_size); have k1_w_1_0 := kq 0; have k1_w_1_1 := kq 1; clear kq; have f1_w_1 := frozAt hb1 (w.heap.size + 1) (by go_size); simp [go_sem, *] at k1_w_1_0 k1_w_1_1 f1_w_1)); (try have l1_w_1 : w.heap.size + 1 < w1.heap.size := by omega)))
    go_region
    by_cases hf : frB (-(n.tdiv (gcdI n d))) (-(d.tdiv (gcdI n d))) = true
    · go_wp2_with (first | (go_at_call 43; refine (gcd_any _ _ _ (by omega) (by omega) (by omega) (by omega)).mono ?_; rintro e w' ⟨rfl, nq, rfl⟩) | (have _t := tok1; go_at_call 49; refine (isFraction_any _ _ _).mono ?_; rintro e w1 ⟨rfl, hb1⟩; clear tok1 _t; have hz1 := hb1.size; (try simp only [World.size_alloc, World.size_setCell, World.size_drew, World.size_drewN'] at hz1); (try (have kq := cellAt hb1 (w.heap.size) (by go_size); have k1_w_0_0 := kq 0; have k1_w_0_1 := kq 1; clear kq; have f1_w_0 := frozAt hb1 (w.heap.size) (by go_size); simp [go_sem, *] at k1_w_0_0 k1_w_0_1 f1_w_0)); (try have l1_w_0 : w.heap.size < w1.heap.size := by omega); (try (have kq := cellAt hb1 (w.heap.size + 1) (by go_size); have k1_w_1_0 := kq 0; have k1_w_1_1 := kq 1; clear kq; have f1_w_1 := frozAt hb1 (w.heap.size + 1) (by go_size); simp [go_sem, *] at k1_w_1_0 k1_w_1_1 f1_w_1)); (try have l1_w_1 : w.heap.size + 1 < w1.heap.size := by omega)))
      rw [mkF_yes HN.out HD.out hf]
      refine bodyPost_ret (v := .tuple #[.agg #[.int .i64 (-(n.tdiv (gcdI n d))), .int .i64 (-(d.tdiv (gcdI n d)))], .bool true]) (by simp [results, Tryz.results28, go_sem, *]) rfl ⟨rfl, ?_⟩
      repeat' first | (with_reducible first | apply zRf | assumption | apply zDn | apply zDr | apply zAl | apply zSt | refine zVi (by assumption) ?_ ?_) | go_size
    · simp only [Bool.not_eq_true] at hf
      go_wp2_with (first | (go_at_call 43; refine (gcd_any _ _ _ (by omega) (by omega) (by omega) (by omega)).mono ?_; rintro e w' ⟨rfl, nq, rfl⟩) | (have _t := tok1; go_at_call 49; refine (isFraction_any _ _ _).mono ?_; rintro e w1 ⟨rfl, hb1⟩; clear tok1 _t; have hz1 := hb1.size; (try simp only [World.size_alloc, World.size_setCell, World.size_drew, World.size_drewN'] at hz1); (try (have kq := cellAt hb1 (w.heap.size) (by go_size); have k1_w_0_0 := kq 0; have k1_w_0_1 := kq 1; clear kq; have f1_w_0 := frozAt hb1 (w.heap.size) (by go_size); simp [go_sem, *] at k1_w_0_0 k1_w_0_1 f1_w_0)); (try have l1_w_0 : w.heap.size < w1.heap.size := by omega); (try (have kq := cellAt hb1 (w.heap.size + 1) (by go_size); have k1_w_1_0 := kq 0; have k1_w_1_1 := kq 1; clear kq; have f1_w_1 := frozAt hb1 (w.heap.size + 1) (by go_size); simp [go_sem, *] at k1_w_1_0 k1_w_1_1 f1_w_1)); (try have l1_w_1 : w.heap.size + 1 < w1.heap.size := by omega)))
      rw [mkF_no HN.out HD.out (by simp [hf])]
      refine bodyPost_ret (v := .tuple #[.agg #[.int .i64 0, .int .i64 0], .bool false]) (by simp [results, Tryz.results28, go_sem, *]) rfl ⟨rfl, ?_⟩
      repeat' first | (with_reducible first | apply zRf | assumption | apply zDn | apply zDr | apply zAl | apply zSt | refine zVi (by assumption) ?_ ?_) | go_size
  · have q1 := tdiv_bd n (gcdI n d)
    have q2 := tdiv_bd d (gcdI n d)
    have HN := Lib.hid (show mkN n d = (n.tdiv (gcdI n d)) by simp [mkN, hneg])
    have HD := Lib.hid (show mkD n d = (d.tdiv (gcdI n d)) by simp [mkD, hneg])
    have tok1 : True := trivial
    go_enter Tryz.func28, Tryz.ntmps28
    go_wp2_with (first | (go_at_call 43; refine (gcd_any _ _ _ (by omega) (by omega) (by omega) (by omega)).mono ?_; rintro e w' ⟨rfl, nq, rfl⟩) | (have _t := tok1; go_at_call 49; refine (isFraction_any _ _ _).mono ?_; rintro e w1 ⟨rfl, hb1⟩; clear tok1 _t; have hz1 := hb1.size; (try simp only [World.size_alloc, World.size_setCell, World.size_drew, World.size_drewN'] at hz1); (try (have kq := cellAt hb1 (w.heap.size) (by go_size); have k1_w_0_0 := kq 0; have k1_w_0_1 := kq 1; clear kq; have f1_w_0 := frozAt hb1 (w.heap.size) (by go_size); simp [go_sem, *] at k1_w_0_0 k1_w_0_1 f1_w_0)); (try have l1_w_0 : w.heap.size < w1.heap.size := by omega); (try (have kq := cellAt hb1 (w.heap.size + 1) (by go_size); have k1_w_1_0 := kq 0; have k1_w_1_1 := kq 1; clear kq; have f1_w_1 := frozAt hb1 (w.heap.size + 1) (by go_size); simp [go_sem, *] at k1_w_1_0 k1_w_1_1 f1_w_1)); (try have l1_w_1 : w.heap.size + 1 < w1.heap.size := by omega)))
    go_region
    by_cases hf : frB ((n.tdiv (gcdI n d))) ((d.tdiv (gcdI n d))) = true
    · go_wp2_with (first | (go_at_call 43; refine (gcd_any _ _ _ (by omega) (by omega) (by omega) (by omega)).mono ?_; rintro e w' ⟨rfl, nq, rfl⟩) | (have _t := tok1; go_at_call 49; refine (isFraction_any _ _ _).mono ?_; rintro e w1 ⟨rfl, hb1⟩; clear tok1 _t; have hz1 := hb1.size; (try simp only [World.size_alloc, World.size_setCell, World.size_drew, World.size_drewN'] at hz1); (try (have kq := cellAt hb1 (w.heap.size) (by go_size); have k1_w_0_0 := kq 0; have k1_w_0_1 := kq 1; clear kq; have f1_w_0 := frozAt hb1 (w.heap.size) (by go_size); simp [go_sem, *] at k1_w_0_0 k1_w_0_1 f1_w_0)); (try have l1_w_0 : w.heap.size < w1.heap.size := by omega); (try (have kq := cellAt hb1 (w.heap.size + 1) (by go_size); have k1_w_1_0 := kq 0; have k1_w_1_1 := kq 1; clear kq; have f1_w_1 := frozAt hb1 (w.heap.size + 1) (by go_size); simp [go_sem, *] at k1_w_1_0 k1_w_1_1 f1_w_1)); (try have l1_w_1 : w.heap.size + 1 < w1.heap.size := by omega)))
      rw [mkF_yes HN.out HD.out hf]
      refine bodyPost_ret (v := .tuple #[.agg #[.int .i64 ((n.tdiv (gcdI n d))), .int .i64 ((d.tdiv (gcdI n d)))], .bool true]) (by simp [results, Tryz.results28, go_sem, *]) rfl ⟨rfl, ?_⟩
      repeat' first | (with_reducible first | apply zRf | assumption | apply zDn | apply zDr | apply zAl | apply zSt | refine zVi (by assumption) ?_ ?_) | go_size
    · simp only [Bool.not_eq_true] at hf
      go_wp2_with (first | (go_at_call 43; refine (gcd_any _ _ _ (by omega) (by omega) (by omega) (by omega)).mono ?_; rintro e w' ⟨rfl, nq, rfl⟩) | (have _t := tok1; go_at_call 49; refine (isFraction_any _ _ _).mono ?_; rintro e w1 ⟨rfl, hb1⟩; clear tok1 _t; have hz1 := hb1.size; (try simp only [World.size_alloc, World.size_setCell, World.size_drew, World.size_drewN'] at hz1); (try (have kq := cellAt hb1 (w.heap.size) (by go_size); have k1_w_0_0 := kq 0; have k1_w_0_1 := kq 1; clear kq; have f1_w_0 := frozAt hb1 (w.heap.size) (by go_size); simp [go_sem, *] at k1_w_0_0 k1_w_0_1 f1_w_0)); (try have l1_w_0 : w.heap.size < w1.heap.size := by omega); (try (have kq := cellAt hb1 (w.heap.size + 1) (by go_size); have k1_w_1_0 := kq 0; have k1_w_1_1 := kq 1; clear kq; have f1_w_1 := frozAt hb1 (w.heap.size + 1) (by go_size); simp [go_sem, *] at k1_w_1_0 k1_w_1_1 f1_w_1)); (try have l1_w_1 : w.heap.size + 1 < w1.heap.size := by omega)))
      rw [mkF_no HN.out HD.out (by simp [hf])]
      refine bodyPost_ret (v := .tuple #[.agg #[.int .i64 0, .int .i64 0], .bool false]) (by simp [results, Tryz.results28, go_sem, *]) rfl ⟨rfl, ?_⟩
      repeat' first | (with_reducible first | apply zRf | assumption | apply zDn | apply zDr | apply zAl | apply zSt | refine zVi (by assumption) ?_ ?_) | go_size
theorem frMake_any (n d : Int) (w : World) (hd : d ≠ 0) (h1 : -9223372036854775807 ≤ n) (h2 : n ≤ 9223372036854775807) (h3 : -9223372036854775807 ≤ d) (h4 : d ≤ 9223372036854775807) :
    Calls Tryz.prog 48 #[.int .i64 n, .int .i64 d] w fun e w' => e = .returned (.tuple #[.agg #[.int .i64 (mkF n d).1, .int .i64 (mkF n d).2.1], .bool (mkF n d).2.2]) ∧ Below w.heap.size w w' := by
  have hg := gcdI_pos (a := n) hd
  have hg2 : gcdI n d ≤ 9223372036854775807 := by
    have := gcdI_le (a := n) hd
    unfold absI at this; omega
  have a1 := absI_nonneg n
  have a2 := absI_nonneg d
  have a3 : absI n ≤ 9223372036854775807 := absI_le (by omega) (by omega)
  have a4 : absI d ≤ 9223372036854775807 := absI_le (by omega) (by omega)
  have a5 := gcdI_abs n (absI d)
  have a6 := gcdI_abs2 n d
  by_cases hneg : d < 0
  · have q1 := tdiv_bd n (gcdI n d)
    have q2 := tdiv_bd d (gcdI n d)
    have HN := Lib.hid (show mkN n d = -(n.tdiv (gcdI n d)) by simp [mkN, hneg])
    have HD := Lib.hid (show mkD n d = -(d.tdiv (gcdI n d)) by simp [mkD, hneg])
    have tok1 : True := trivial
    go_enter Tryz.func48, Tryz.ntmps48
    go_wp2_with (first | (go_at_call 51; refine (l1Abs_any _ _ (by omega) (by omega)).mono ?_; rintro e w' ⟨rfl, rfl⟩) | (go_at_call 71; refine (common_any _ _ _ (by omega) (by omega) (by omega) (by omega)).mono ?_; rintro e w' ⟨rfl, rfl⟩) | (have _t := tok1; go_at_call 75; refine (frGood_any _ _ _).mono ?_; rintro e w1 ⟨rfl, hb1⟩; clear tok1 _t; have hz1 := hb1.size; (try simp only [World.size_alloc, World.size_setCell, World.size_drew, World.size_drewN'] at hz1); (try (have kq := cellAt hb1 (w.heap.size) (by go_size); have k1_w_0_0 := kq 0; have k1_w_0_1 := kq 1; clear kq; have f1_w_0 := frozAt hb1 (w.heap.size) (by go_size); simp [go_sem, *] at k1_w_0_0 k1_w_0_1 f1_w_0)); (try have l1_w_0 : w.heap.size < w1.heap.size := by omega); (try (have kq := cellAt hb1 (w.heap.size + 1) (by go_size); have k1_w_1_0 := kq 0; have k1_w_1_1 := kq 1; clear kq; have f1_w_1 := frozAt hb1 (w.heap.size + 1) (by go_size); simp [go_sem, *] at k1_w_1_0 k1_w_1_1 f1_w_1)); (try have l1_w_1 : w.heap.size + 1 < w1.heap.size := by omega)))
    go_region
    by_cases hf : frB (-(n.tdiv (gcdI n d))) (-(d.tdiv (gcdI n d))) = true
    · go_wp2_with (first | (go_at_call 51; refine (l1Abs_any _ _ (by omega) (by omega)).mono ?_; rintro e w' ⟨rfl, rfl⟩) | (go_at_call 71; refine (common_any _ _ _ (by omega) (by omega) (by omega) (by omega)).mono ?_; rintro e w' ⟨rfl, rfl⟩) | (have _t := tok1; go_at_call 75; refine (frGood_any _ _ _).mono ?_; rintro e w1 ⟨rfl, hb1⟩; clear tok1 _t; have hz1 := hb1.size; (try simp only [World.size_alloc, World.size_setCell, World.size_drew, World.size_drewN'] at hz1); (try (have kq := cellAt hb1 (w.heap.size) (by go_size); have k1_w_0_0 := kq 0; have k1_w_0_1 := kq 1; clear kq; have f1_w_0 := frozAt hb1 (w.heap.size) (by go_size); simp [go_sem, *] at k1_w_0_0 k1_w_0_1 f1_w_0)); (try have l1_w_0 : w.heap.size < w1.heap.size := by omega); (try (have kq := cellAt hb1 (w.heap.size + 1) (by go_size); have k1_w_1_0 := kq 0; have k1_w_1_1 := kq 1; clear kq; have f1_w_1 := frozAt hb1 (w.heap.size + 1) (by go_size); simp [go_sem, *] at k1_w_1_0 k1_w_1_1 f1_w_1)); (try have l1_w_1 : w.heap.size + 1 < w1.heap.size := by omega)))
      rw [mkF_yes HN.out HD.out hf]
      refine bodyPost_ret (v := .tuple #[.agg #[.int .i64 (-(n.tdiv (gcdI n d))), .int .i64 (-(d.tdiv (gcdI n d)))], .bool true]) (by simp [results, Tryz.results48, go_sem, *]) rfl ⟨rfl, ?_⟩
      repeat' first | (with_reducible first | apply zRf | assumption | apply zDn | apply zDr | apply zAl | apply zSt | refine zVi (by assumption) ?_ ?_) | go_size
    · simp only [Bool.not_eq_true] at hf
      go_wp2_with (first | (go_at_call 51; refine (l1Abs_any _ _ (by omega) (by omega)).mono ?_; rintro e w' ⟨rfl, rfl⟩) | (go_at_call 71; refine (common_any _ _ _ (by omega) (by omega) (by omega) (by omega)).mono ?_; rintro e w' ⟨rfl, rfl⟩) | (have _t := tok1; go_at_call 75; refine (frGood_any _ _ _).mono ?_; rintro e w1 ⟨rfl, hb1⟩; clear tok1 _t; have hz1 := hb1.size; (try simp only [World.size_alloc, World.size_setCell, World.size_drew, World.size_drewN'] at hz1); (try (have kq := cellAt hb1 (w.heap.size) (by go_size); have k1_w_0_0 := kq 0; have k1_w_0_1 := kq 1; clear kq; have f1_w_0 := frozAt hb1 (w.heap.size) (by go_size); simp [go_sem, *] at k1_w_0_0 k1_w_0_1 f1_w_0)); (try have l1_w_0 : w.heap.size < w1.heap.size := by omega); (try (have kq := cellAt hb1 (w.heap.size + 1) (by go_size); have k1_w_1_0 := kq 0; have k1_w_1_1 := kq 1; clear kq; have f1_w_1 := frozAt hb1 (w.heap.size + 1) (by go_size); simp [go_sem, *] at k1_w_1_0 k1_w_1_1 f1_w_1)); (try have l1_w_1 : w.heap.size + 1 < w1.heap.size := by omega)))
      rw [mkF_no HN.out HD.out (by simp [hf])]
      refine bodyPost_ret (v := .tuple #[.agg #[.int .i64 0, .int .i64 0], .bool false]) (by simp [results, Tryz.results48, go_sem, *]) rfl ⟨rfl, ?_⟩
      repeat' first | (with_reducible first | apply zRf | assumption | apply zDn | apply zDr | apply zAl | apply zSt | refine zVi (by assumption) ?_ ?_) | go_size
  · have q1 := tdiv_bd n (gcdI n d)
    have q2 := tdiv_bd d (gcdI n d)
    have HN := Lib.hid (show mkN n d = (n.tdiv (gcdI n d)) by simp [mkN, hneg])
    have HD := Lib.hid (show mkD n d = (d.tdiv (gcdI n d)) by simp [mkD, hneg])
    have tok1 : True := trivial
    go_enter Tryz.func48, Tryz.ntmps48
    go_wp2_with (first | (go_at_call 51; refine (l1Abs_any _ _ (by omega) (by omega)).mono ?_; rintro e w' ⟨rfl, rfl⟩) | (go_at_call 71; refine (common_any _ _ _ (by omega) (by omega) (by omega) (by omega)).mono ?_; rintro e w' ⟨rfl, rfl⟩) | (have _t := tok1; go_at_call 75; refine (frGood_any _ _ _).mono ?_; rintro e w1 ⟨rfl, hb1⟩; clear tok1 _t; have hz1 := hb1.size; (try simp only [World.size_alloc, World.size_setCell, World.size_drew, World.size_drewN'] at hz1); (try (have kq := cellAt hb1 (w.heap.size) (by go_size); have k1_w_0_0 := kq 0; have k1_w_0_1 := kq 1; clear kq; have f1_w_0 := frozAt hb1 (w.heap.size) (by go_size); simp [go_sem, *] at k1_w_0_0 k1_w_0_1 f1_w_0)); (try have l1_w_0 : w.heap.size < w1.heap.size := by omega); (try (have kq := cellAt hb1 (w.heap.size + 1) (by go_size); have k1_w_1_0 := kq 0; have k1_w_1_1 := kq 1; clear kq; have f1_w_1 := frozAt hb1 (w.heap.size + 1) (by go_size); simp [go_sem, *] at k1_w_1_0 k1_w_1_1 f1_w_1)); (try have l1_w_1 : w.heap.size + 1 < w1.heap.size := by omega)))
    go_region
    by_cases hf : frB ((n.tdiv (gcdI n d))) ((d.tdiv (gcdI n d))) = true
    · go_wp2_with (first | (go_at_call 51; refine (l1Abs_any _ _ (by omega) (by omega)).mono ?_; rintro e w' ⟨rfl, rfl⟩) | (go_at_call 71; refine (common_any _ _ _ (by omega) (by omega) (by omega) (by omega)).mono ?_; rintro e w' ⟨rfl, rfl⟩) | (have _t := tok1; go_at_call 75; refine (frGood_any _ _ _).mono ?_; rintro e w1 ⟨rfl, hb1⟩; clear tok1 _t; have hz1 := hb1.size; (try simp only [World.size_alloc, World.size_setCell, World.size_drew, World.size_drewN'] at hz1); (try (have kq := cellAt hb1 (w.heap.size) (by go_size); have k1_w_0_0 := kq 0; have k1_w_0_1 := kq 1; clear kq; have f1_w_0 := frozAt hb1 (w.heap.size) (by go_size); simp [go_sem, *] at k1_w_0_0 k1_w_0_1 f1_w_0)); (try have l1_w_0 : w.heap.size < w1.heap.size := by omega); (try (have kq := cellAt hb1 (w.heap.size + 1) (by go_size); have k1_w_1_0 := kq 0; have k1_w_1_1 := kq 1; clear kq; have f1_w_1 := frozAt hb1 (w.heap.size + 1) (by go_size); simp [go_sem, *] at k1_w_1_0 k1_w_1_1 f1_w_1)); (try have l1_w_1 : w.heap.size + 1 < w1.heap.size := by omega)))
      rw [mkF_yes HN.out HD.out hf]
      refine bodyPost_ret (v := .tuple #[.agg #[.int .i64 ((n.tdiv (gcdI n d))), .int .i64 ((d.tdiv (gcdI n d)))], .bool true]) (by simp [results, Tryz.results48, go_sem, *]) rfl ⟨rfl, ?_⟩
      repeat' first | (with_reducible first | apply zRf | assumption | apply zDn | apply zDr | apply zAl | apply zSt | refine zVi (by assumption) ?_ ?_) | go_size
    · simp only [Bool.not_eq_true] at hf
      go_wp2_with (first | (go_at_call 51; refine (l1Abs_any _ _ (by omega) (by omega)).mono ?_; rintro e w' ⟨rfl, rfl⟩) | (go_at_call 71; refine (common_any _ _ _ (by omega) (by omega) (by omega) (by omega)).mono ?_; rintro e w' ⟨rfl, rfl⟩) | (have _t := tok1; go_at_call 75; refine (frGood_any _ _ _).mono ?_; rintro e w1 ⟨rfl, hb1⟩; clear tok1 _t; have hz1 := hb1.size; (try simp only [World.size_alloc, World.size_setCell, World.size_drew, World.size_drewN'] at hz1); (try (have kq := cellAt hb1 (w.heap.size) (by go_size); have k1_w_0_0 := kq 0; have k1_w_0_1 := kq 1; clear kq; have f1_w_0 := frozAt hb1 (w.heap.size) (by go_size); simp [go_sem, *] at k1_w_0_0 k1_w_0_1 f1_w_0)); (try have l1_w_0 : w.heap.size < w1.heap.size := by omega); (try (have kq := cellAt hb1 (w.heap.size + 1) (by go_size); have k1_w_1_0 := kq 0; have k1_w_1_1 := kq 1; clear kq; have f1_w_1 := frozAt hb1 (w.heap.size + 1) (by go_size); simp [go_sem, *] at k1_w_1_0 k1_w_1_1 f1_w_1)); (try have l1_w_1 : w.heap.size + 1 < w1.heap.size := by omega)))
      rw [mkF_no HN.out HD.out (by simp [hf])]
      refine bodyPost_ret (v := .tuple #[.agg #[.int .i64 0, .int .i64 0], .bool false]) (by simp [results, Tryz.results48, go_sem, *]) rfl ⟨rfl, ?_⟩
      repeat' first | (with_reducible first | apply zRf | assumption | apply zDn | apply zDr | apply zAl | apply zSt | refine zVi (by assumption) ?_ ?_) | go_size
end
section
open Go.RowKit
set_option linter.unusedVariables false
set_option maxHeartbeats 4000000
set_option linter.unusedSimpArgs false
theorem toCurve_any (x0 x1 : Int) (w : World) : Calls Tryz.prog 8 #[.agg #[.int .i64 x0, .int .i64 x1]] w fun e w' => e = .returned (.agg #[.int .i64 x0, .int .i64 x1]) ∧ Below w.heap.size w w' := by
  go_enter Tryz.func8, Tryz.ntmps8
  go_wp2
  refine bodyPost_ret (v := _) (by simp [results, Tryz.results8, go_sem, *]) rfl ⟨rfl, ?_⟩
  repeat' first | (with_reducible first | apply zRf | assumption | apply zDn | apply zDr | apply zAl | apply zSt | refine zVi (by assumption) ?_ ?_) | go_size
theorem toPoint_any (x0 x1 x2 : Int) (w : World) : Calls Tryz.prog 9 #[.agg #[.int .i64 x0, .int .i64 x1, .int .i64 x2]] w fun e w' => e = .returned (.agg #[.int .i64 x0, .int .i64 x1, .int .i64 x2]) ∧ Below w.heap.size w w' := by
  go_enter Tryz.func9, Tryz.ntmps9
  go_wp2
  refine bodyPost_ret (v := _) (by simp [results, Tryz.results9, go_sem, *]) rfl ⟨rfl, ?_⟩
  repeat' first | (with_reducible first | apply zRf | assumption | apply zDn | apply zDr | apply zAl | apply zSt | refine zVi (by assumption) ?_ ?_) | go_size
theorem eqFraction_same (n d : Int) (w : World) : Calls Tryz.prog 16 #[.agg #[.int .i64 n, .int .i64 d], .agg #[.int .i64 n, .int .i64 d]] w fun e w' => e = .returned (.bool true) ∧ Below w.heap.size w w' := by
  have e1 : (n != n) = false := by simp
  have e2 : (d != d) = false := by simp
  go_enter Tryz.func16, Tryz.ntmps16
  go_wp2
  go_ret
  refine ⟨rfl, ?_⟩
  repeat' first | (with_reducible first | apply zRf | assumption | apply zDn | apply zDr | apply zAl | apply zSt | refine zVi (by assumption) ?_ ?_) | go_size
end
section
open Go.RowKit
set_option linter.unusedVariables false
set_option maxHeartbeats 2000000
set_option maxRecDepth 20000
set_option linter.unusedSimpArgs false
attribute [local go_sem] openAt openUpon
def dcV (A B : Int) : Int := (bl (most (dbM (absI A) (absI B)) (dbK (absI A) (absI B) (absI (coV A B)))) : Nat)
theorem db_bd {A B : Int} (hA : -1000 ≤ A ∧ A ≤ 1000) (hB : -10000 ≤ B ∧ B ≤ 10000) : 0 ≤ most (dbM (absI A) (absI B)) (dbK (absI A) (absI B) (absI (coV A B))) ∧ most (dbM (absI A) (absI B)) (dbK (absI A) (absI B) (absI (coV A B))) ≤ 10000000000000000 := by
  have hc := coV_bd hA hB
  have ha0 := absI_nonneg A
  have hb0 := absI_nonneg B
  have hd0 := absI_nonneg (coV A B)
  have ha1 := absI_le hA.1 hA.2
  have hb1 := absI_le hB.1 hB.2
  have hd1 := absI_le hc.1 hc.2
  generalize absI A = a at *
  generalize absI B = b at *
  generalize absI (coV A B) = d at *
  have hm2_1 : 0 ≤ (a * a) ∧ (a * a) ≤ 1000000 := by have := pB (x := a) (y := a) (X := 1000) (Y := 1000) (by omega) (by omega); omega
  have hm4_1 : 0 ≤ ((5 * a) * a) ∧ ((5 * a) * a) ≤ 5000000 := by have := pB (x := (5 * a)) (y := a) (X := 5000) (Y := 1000) (by omega) (by omega); omega
  have hm4_2 : 0 ≤ (((5 * a) * a) * b) ∧ (((5 * a) * a) * b) ≤ 50000000000 := by have := pB (x := ((5 * a) * a)) (y := b) (X := 5000000) (Y := 10000) (by omega) (by omega); omega
  have hm4_3 : 0 ≤ ((3 * a) * a) ∧ ((3 * a) * a) ≤ 3000000 := by have := pB (x := (3 * a)) (y := a) (X := 3000) (Y := 1000) (by omega) (by omega); omega
  have hm4_4 : 0 ≤ (((3 * a) * a) * a) ∧ (((3 * a) * a) * a) ≤ 3000000000 := by have := pB (x := ((3 * a) * a)) (y := a) (X := 3000000) (Y := 1000) (by omega) (by omega); omega
  have hm4_5 : 0 ≤ ((22 * b) * b) ∧ ((22 * b) * b) ≤ 2200000000 := by have := pB (x := (22 * b)) (y := b) (X := 220000) (Y := 10000) (by omega) (by omega); omega
  have hm4_6 : 0 ≤ ((4 * a) * ((((3 * a) * a) * a) + ((22 * b) * b))) ∧ ((4 * a) * ((((3 * a) * a) * a) + ((22 * b) * b))) ≤ 20800000000000 := by have := pB (x := (4 * a)) (y := ((((3 * a) * a) * a) + ((22 * b) * b))) (X := 4000) (Y := 5200000000) (by omega) (by omega); omega
  have hm4_7 : 0 ≤ (a * a) ∧ (a * a) ≤ 1000000 := by have := pB (x := a) (y := a) (X := 1000) (Y := 1000) (by omega) (by omega); omega
  have hm4_8 : 0 ≤ ((a * a) * a) ∧ ((a * a) * a) ≤ 1000000000 := by have := pB (x := (a * a)) (y := a) (X := 1000000) (Y := 1000) (by omega) (by omega); omega
  have hm4_9 : 0 ≤ ((8 * b) * b) ∧ ((8 * b) * b) ≤ 800000000 := by have := pB (x := (8 * b)) (y := b) (X := 80000) (Y := 10000) (by omega) (by omega); omega
  have hm4_10 : 0 ≤ ((12 * b) * (((a * a) * a) + ((8 * b) * b))) ∧ ((12 * b) * (((a * a) * a) + ((8 * b) * b))) ≤ 216000000000000 := by have := pB (x := (12 * b)) (y := (((a * a) * a) + ((8 * b) * b))) (X := 120000) (Y := 1800000000) (by omega) (by omega); omega
  have hm5_1 : 0 ≤ ((5 * a) * a) ∧ ((5 * a) * a) ≤ 5000000 := by have := pB (x := (5 * a)) (y := a) (X := 5000) (Y := 1000) (by omega) (by omega); omega
  have hm5_2 : 0 ≤ (((5 * a) * a) * a) ∧ (((5 * a) * a) * a) ≤ 5000000000 := by have := pB (x := ((5 * a) * a)) (y := a) (X := 5000000) (Y := 1000) (by omega) (by omega); omega
  have hm5_3 : 0 ≤ ((32 * b) * b) ∧ ((32 * b) * b) ≤ 3200000000 := by have := pB (x := (32 * b)) (y := b) (X := 320000) (Y := 10000) (by omega) (by omega); omega
  have hm5_4 : 0 ≤ (a * ((((5 * a) * a) * a) + ((32 * b) * b))) ∧ (a * ((((5 * a) * a) * a) + ((32 * b) * b))) ≤ 8200000000000 := by have := pB (x := a) (y := ((((5 * a) * a) * a) + ((32 * b) * b))) (X := 1000) (Y := 8200000000) (by omega) (by omega); omega
  have hm5_5 : 0 ≤ ((13 * a) * a) ∧ ((13 * a) * a) ≤ 13000000 := by have := pB (x := (13 * a)) (y := a) (X := 13000) (Y := 1000) (by omega) (by omega); omega
  have hm5_6 : 0 ≤ (((13 * a) * a) * a) ∧ (((13 * a) * a) * a) ≤ 13000000000 := by have := pB (x := ((13 * a) * a)) (y := a) (X := 13000000) (Y := 1000) (by omega) (by omega); omega
  have hm5_7 : 0 ≤ ((96 * b) * b) ∧ ((96 * b) * b) ≤ 9600000000 := by have := pB (x := (96 * b)) (y := b) (X := 960000) (Y := 10000) (by omega) (by omega); omega
  have hm5_8 : 0 ≤ ((2 * b) * ((((13 * a) * a) * a) + ((96 * b) * b))) ∧ ((2 * b) * ((((13 * a) * a) * a) + ((96 * b) * b))) ≤ 452000000000000 := by have := pB (x := (2 * b)) (y := ((((13 * a) * a) * a) + ((96 * b) * b))) (X := 20000) (Y := 22600000000) (by omega) (by omega); omega
  have hm5_9 : 0 ≤ ((3 * a) * a) ∧ ((3 * a) * a) ≤ 3000000 := by have := pB (x := (3 * a)) (y := a) (X := 3000) (Y := 1000) (by omega) (by omega); omega
  have hm5_10 : 0 ≤ (a * a) ∧ (a * a) ≤ 1000000 := by have := pB (x := a) (y := a) (X := 1000) (Y := 1000) (by omega) (by omega); omega
  have hm5_11 : 0 ≤ ((a * a) * a) ∧ ((a * a) * a) ≤ 1000000000 := by have := pB (x := (a * a)) (y := a) (X := 1000000) (Y := 1000) (by omega) (by omega); omega
  have hm5_12 : 0 ≤ ((8 * b) * b) ∧ ((8 * b) * b) ≤ 800000000 := by have := pB (x := (8 * b)) (y := b) (X := 80000) (Y := 10000) (by omega) (by omega); omega
  have hm5_13 : 0 ≤ (((3 * a) * a) * (((a * a) * a) + ((8 * b) * b))) ∧ (((3 * a) * a) * (((a * a) * a) + ((8 * b) * b))) ≤ 5400000000000000 := by have := pB (x := ((3 * a) * a)) (y := (((a * a) * a) + ((8 * b) * b))) (X := 3000000) (Y := 1800000000) (by omega) (by omega); omega
  unfold dbM dbK dbP dbQ
  refine most_bd (most_bd ⟨by omega, by omega⟩ ⟨by omega, by omega⟩) (most_bd ⟨by omega, by omega⟩ ⟨by omega, by omega⟩)
theorem dc_bd {A B : Int} (hA : -1000 ≤ A ∧ A ≤ 1000) (hB : -10000 ≤ B ∧ B ≤ 10000) : 0 ≤ dcV A B ∧ dcV A B ≤ 64 := by
  have h := db_bd hA hB
  have h2 : (2 : Int) ^ 64 = 18446744073709551616 := by decide
  unfold dcV
  generalize most (dbM (absI A) (absI B)) (dbK (absI A) (absI B) (absI (coV A B))) = x at *
  have := bl_le (n := x) (k := 64) (by omega)
  omega
theorem wx_len {W : World} {b : Bool} {a : Option Addr} {n c : Nat} {m : Int} (h : Wx W b a n c m) (h0 : 0 ≤ m) (h1 : m ≤ 10000000000000000) : n ≤ 10000 := by
  have h3 := h.row.len
  rw [ab_pos h0] at h3
  have h2 : (10000 : Int) ^ 5 = 100000000000000000000 := by decide
  have := (limbs_len (n := m) (k := 5)).2 (by omega)
  omega
theorem htConstant_any (A B : Int) (w : World) (hA : -1000 ≤ A ∧ A ≤ 1000) (hB : -10000 ≤ B ∧ B ≤ 10000) : Calls Tryz.prog 90 #[.agg #[.int .i64 A, .int .i64 B]] w fun e w' => e = .returned (.int .i64 (dcV A B)) ∧ Below w.heap.size w w' := by
  have hb := db_bd hA hB
  have T1 := fun W : World => Lib.hid (htDoubling_any A B W hA hB)
  have T2 := fun W : World => bgOf_any (most (dbM (absI A) (absI B)) (dbK (absI A) (absI B) (absI (coV A B)))) W (by omega) (by omega)
  have HV := Lib.hid (show dcV A B = ((bl (ab (most (dbM (absI A) (absI B)) (dbK (absI A) (absI B) (absI (coV A B))))) : Nat) : Int) by rw [ab_pos hb.1]; rfl)
  generalize dbM (absI A) (absI B) = x at *
  generalize dbK (absI A) (absI B) (absI (coV A B)) = y at *
  have tok1 : True := trivial
  have tok2 : True := trivial
  have tok3 : True := trivial
  go_enter Tryz.func90, Tryz.ntmps90
  go_wp2_with (first | (have _t := tok1; go_at_call 106; (with_reducible refine ((T1 _).out).mono ?_); rintro e w1 ⟨rfl, hb1⟩; clear tok1 _t; have hz1 := hb1.size; (try simp only [World.size_alloc, World.size_setCell, World.size_drew, World.size_drewN'] at hz1); (try (have kq := cellAt hb1 (w.heap.size) (by go_size); have k1_w_0_0 := kq 0; have k1_w_0_1 := kq 1; clear kq; have f1_w_0 := frozAt hb1 (w.heap.size) (by go_size); simp [go_sem, *] at k1_w_0_0 k1_w_0_1 f1_w_0)); (try have l1_w_0 : w.heap.size < w1.heap.size := by omega)) | (go_at_call 76; refine (l1Most_any _ _ _).mono ?_; rintro e w' ⟨rfl, rfl⟩) | (have _t := tok2; go_at_call 107; (with_reducible refine ((T2 _)).mono ?_); rintro e w2 ⟨b2, a2, n2, c2, rfl, hv2, hf2, hb2⟩; clear tok2 _t; have hz2 := hb2.size; (try simp only [World.size_alloc, World.size_setCell, World.size_drew, World.size_drewN'] at hz2); (try (have kq := cellAt hb2 (w.heap.size) (by go_size); have k2_w_0_0 := kq 0; have k2_w_0_1 := kq 1; clear kq; have f2_w_0 := frozAt hb2 (w.heap.size) (by go_size); simp [go_sem, *] at k2_w_0_0 k2_w_0_1 f2_w_0)); (try have l2_w_0 : w.heap.size < w2.heap.size := by omega); (try clear k1_w_0_0 k1_w_0_1 f1_w_0); (try clear l1_w_0)) | (have _t := tok3; go_at_call 105; refine ((bgBits_any _ _ _ _ _ _ hv2 (wx_len hv2 hb.1 hb.2))).mono ?_; rintro e w3 ⟨rfl, hb3⟩; clear tok3 _t; have hz3 := hb3.size; (try simp only [World.size_alloc, World.size_setCell, World.size_drew, World.size_drewN'] at hz3); (try (have kq := cellAt hb3 (w.heap.size) (by go_size); have k3_w_0_0 := kq 0; have k3_w_0_1 := kq 1; clear kq; have f3_w_0 := frozAt hb3 (w.heap.size) (by go_size); simp [go_sem, *] at k3_w_0_0 k3_w_0_1 f3_w_0)); (try have l3_w_0 : w.heap.size < w3.heap.size := by omega); (try clear k1_w_0_0 k1_w_0_1 f1_w_0); (try clear l1_w_0); (try clear k2_w_0_0 k2_w_0_1 f2_w_0); (try clear l2_w_0)))
  go_ret
  refine ⟨by rw [HV.out]; rfl, ?_⟩
  repeat' first | (with_reducible first | apply zRf | assumption | apply zDn | apply zDr | apply zAl | apply zSt | refine zVi (by assumption) ?_ ?_) | go_size
theorem doublingConstant_any (A B : Int) (w : World) (hA : -1000 ≤ A ∧ A ≤ 1000) (hB : -10000 ≤ B ∧ B ≤ 10000) : Calls Tryz.prog 98 #[.agg #[.int .i64 A, .int .i64 B]] w fun e w' => e = .returned (.int .i64 (dcV A B)) ∧ Below w.heap.size w w' := by
  have hb := db_bd hA hB
  have T1 := fun W : World => Lib.hid (doublingBounds_any A B W hA hB)
  have hmx := max_most
  have T2 := fun W : World => Lib.hid (len_any (most (dbM (absI A) (absI B)) (dbK (absI A) (absI B) (absI (coV A B)))) W (by omega) (by omega))
  rw [bl_lib (by omega)] at T2
  have HV := Lib.hid (show dcV A B = ((bl (most (dbM (absI A) (absI B)) (dbK (absI A) (absI B) (absI (coV A B)))) : Nat) : Int) from rfl)
  generalize dbM (absI A) (absI B) = x at *
  generalize dbK (absI A) (absI B) (absI (coV A B)) = y at *
  generalize ((bl (most x y) : Nat) : Int) = v at *
  obtain ⟨hb0, hbm⟩ := hb
  have tok1 : True := trivial
  go_enter Tryz.func98, Tryz.ntmps98
  go_wp2_with (first | (have _t := tok1; go_at_call 112; (with_reducible refine ((T1 _).out).mono ?_); rintro e w1 ⟨rfl, hb1⟩; clear tok1 _t; have hz1 := hb1.size; (try simp only [World.size_alloc, World.size_setCell, World.size_drew, World.size_drewN'] at hz1); (try (have kq := cellAt hb1 (w.heap.size) (by go_size); have k1_w_0_0 := kq 0; have k1_w_0_1 := kq 1; clear kq; have f1_w_0 := frozAt hb1 (w.heap.size) (by go_size); simp [go_sem, *] at k1_w_0_0 k1_w_0_1 f1_w_0)); (try have l1_w_0 : w.heap.size < w1.heap.size := by omega)) | (go_at_call 113; (with_reducible refine ((T2 _).out).mono ?_); rintro e w' ⟨rfl, rfl⟩))
  go_ret
  refine ⟨by rw [HV.out]; rfl, ?_⟩
  repeat' first | (with_reducible first | apply zRf | assumption | apply zDn | apply zDr | apply zAl | apply zSt | refine zVi (by assumption) ?_ ?_) | go_size
theorem chPower_any (k : Int) (w : World) (hk : 0 ≤ k) (hk2 : k ≤ 5) :
    Calls Tryz.prog 91 #[.int .i64 k] w fun e w' => e = .returned (.int .i64 (4 ^ k.toNat * 3)) ∧ w = w' := by
  have HM : (4 : Int) ^ k.toNat ≤ 1000000000000000 := by
    have := pow_mono' (p := 4) (by omega) (m := k.toNat) (n := 5) (by omega)
    have h5 : (4 : Int) ^ 5 = 1024 := by decide
    omega
  have HM := Lib.hid HM
  go_enter Tryz.func91, Tryz.ntmps91
  go_wp2
  go_loop [0, 3] (fun i o => ∃ j : Nat, (j : Int) ≤ k ∧ i = .int .i64 (k - j) ∧ o = .int .i64 ((4 : Int) ^ j * 3)) (fun i _ => (intOf i).toNat)
  case atStart => exact ⟨0, by omega, by simp, by simp⟩
  case round =>
    obtain ⟨j, hj, rfl, rfl⟩ := hrel
    by_cases hlt : (j : Int) < k
    · have hs := pow_step (a := 4) (by omega) hlt HM.out
      have HE := Lib.hid (show (4 : Int) ^ j * 3 * 4 = 4 ^ (j + 1) * 3 by rw [← hs.2.2.1]; omega)
      have hs1 := hs.1
      have hs2 := hs.2.1
      clear hs
      generalize hq : (4 : Int) ^ j * 3 = q at *
      have hq1 : q ≤ 3000000000000000 := by omega
      have hq0 : 0 ≤ q := by omega
      clear hq hs1 hs2
      go_wp2
      go_round
      case rel => exact ⟨j + 1, by omega, by go_num, by rw [HE.out]⟩
      case measure => simp [intOf]; omega
    · have : (j : Int) = k := by omega
      subst this
      go_wp2
      go_ret
      exact ⟨by simp, rfl⟩
theorem four_bd {k : Int} (h0 : 0 ≤ k) (h1 : k ≤ 5) : 1 ≤ (4 : Int) ^ k.toNat ∧ (4 : Int) ^ k.toNat ≤ 1024 := by
  have := pow_mono' (p := 4) (by omega) (m := k.toNat) (n := 5) (by omega)
  have h5 : (4 : Int) ^ 5 = 1024 := by decide
  have := pow_pos' (p := 4) (by omega) k.toNat
  omega
end
end Go.Proofs.YtgjppinjapdbeaaGreat
