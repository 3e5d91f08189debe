/- Lemmas and contracts of functions. No condition. -/
import Derived.Test.YtnkmgpmehkholaaGreatPq3
namespace Go.Proofs.YtnkmgpmehkholaaGreat
open Go.RowKit
set_option linter.unusedVariables false
set_option maxHeartbeats 4000000
set_option linter.unusedSimpArgs false

theorem floorOf_any (a b : Int) (w : World) (hb : 0 < b) (h1 : -9223372036854775000 ≤ a) (h2 : a ≤ 9223372036854775000) : Calls Tryz.prog 75 #[.int .i64 a, .int .i64 b] w fun e w' => e = .returned (.int .i64 (down a b)) ∧ w = w' := by
 have hq := tdiv_bd a b
 have hd := down_of a b hb
 have hne : b ≠ 0 := by omega
 go_enter Tryz.func75, Tryz.ntmps75
 go_wp2
 ·have h : a.tmod b < 0 := by assumption
  rw [if_pos h] at hd
  go_ret
  exact ⟨ret_int hd, rfl⟩
 ·have h : 0 ≤ a.tmod b := by assumption
  rw [if_neg (by omega)] at hd
  go_ret
  exact ⟨ret_int hd, rfl⟩
theorem frDown_any (a b : Int) (w : World) (hb : 0 < b) (h1 : -9223372036854775000 ≤ a) (h2 : a ≤ 9223372036854775000) : Calls Tryz.prog 98 #[.int .i64 a, .int .i64 b] w fun e w' => e = .returned (.int .i64 (down a b)) ∧ w = w' := by
 have hq := tdiv_bd a b
 have hd := down_of a b hb
 go_enter Tryz.func98, Tryz.ntmps98
 go_wp2
 ·have h : a.tmod b < 0 := by assumption
  rw [if_pos h] at hd
  go_ret
  exact ⟨ret_int hd, rfl⟩
 ·have h : 0 ≤ a.tmod b := by assumption
  rw [if_neg (by omega)] at hd
  go_ret
  exact ⟨ret_int hd, rfl⟩
theorem makeFraction_any (n d : Int) (w : World) (hd : d ≠ 0) (h1 : -9223372036854775807 ≤ n) (h2 : n ≤ 9223372036854775807) (h3 : -9223372036854775807 ≤ d) (h4 : d ≤ 9223372036854775807) :
  Calls Tryz.prog 22 #[.int .i64 n, .int .i64 d] w fun e w' => e = .returned (.tuple #[.agg #[.int .i64 (mkF n d).1, .int .i64 (mkF n d).2.1], .bool (mkF n d).2.2]) ∧ Below w.heap.size w w' := by
 have hg := gcdI_pos (a := n) hd
 have hg2 : gcdI n d ≤ 9223372036854775807 := by
  have := gcdI_le (a := n) hd
  unfold absI at this; omega
 by_cases hneg : d < 0
 ·have q1 := tdiv_bd n (gcdI n d)
  have q2 := tdiv_bd d (gcdI n d)
  have HN := Lib.hid (show mkN n d = -(n.tdiv (gcdI n d)) by simp [mkN, hneg])
  have HD := Lib.hid (show mkD n d = -(d.tdiv (gcdI n d)) by simp [mkD, hneg])
  have tok1 := trivial
  go_enter Tryz.func22, Tryz.ntmps22
  go_wp2_with (first | (go_at_call 36; refine (gcd_any _ _ _ (by omega) (by omega) (by omega) (by omega)).mono ?_; rintro e w' ⟨rfl, nq, rfl⟩) | (have _t := tok1; go_at_call 42; refine (isFraction_any _ _ _).mono ?_; rintro e w1 ⟨rfl, hb1⟩; clear tok1 _t; have hz1 := hb1.size; (try simp only [sA, sB, sC, sD] at hz1); (try (obtain ⟨kq, qg⟩ := cfAt hb1 (w.heap.size); have qc := kq 0; have qd := kq 1; clear kq; simp [go_sem, *] at qc qd qg)); (try have qi : w.heap.size < w1.heap.size := by omega); (try (obtain ⟨kq, qh⟩ := cfAt hb1 (w.heap.size + 1); have qe := kq 0; have qf := kq 1; clear kq; simp [go_sem, *] at qe qf qh)); (try have qj : w.heap.size + 1 < w1.heap.size := by omega)))
  go_region
  by_cases hf : frB (-(n.tdiv (gcdI n d))) (-(d.tdiv (gcdI n d))) = true
  ·go_wp2_with (first | (go_at_call 36; refine (gcd_any _ _ _ (by omega) (by omega) (by omega) (by omega)).mono ?_; rintro e w' ⟨rfl, nq, rfl⟩) | (have _t := tok1; go_at_call 42; refine (isFraction_any _ _ _).mono ?_; rintro e w1 ⟨rfl, hb1⟩; clear tok1 _t; have hz1 := hb1.size; (try simp only [sA, sB, sC, sD] at hz1); (try (obtain ⟨kq, qg⟩ := cfAt hb1 (w.heap.size); have qc := kq 0; have qd := kq 1; clear kq; simp [go_sem, *] at qc qd qg)); (try have qi : w.heap.size < w1.heap.size := by omega); (try (obtain ⟨kq, qh⟩ := cfAt hb1 (w.heap.size + 1); have qe := kq 0; have qf := kq 1; clear kq; simp [go_sem, *] at qe qf qh)); (try have qj : w.heap.size + 1 < w1.heap.size := by omega)))
   rw [mkF_yes HN.out HD.out hf]
   refine bodyPost_ret (v := .tuple #[.agg #[.int .i64 (-(n.tdiv (gcdI n d))), .int .i64 (-(d.tdiv (gcdI n d)))], .bool true]) (by simp [results, Tryz.results22, go_sem, *]) rfl ⟨rfl, ?_⟩
   exact bel
  ·simp only [Bool.not_eq_true] at hf
   go_wp2_with (first | (go_at_call 36; refine (gcd_any _ _ _ (by omega) (by omega) (by omega) (by omega)).mono ?_; rintro e w' ⟨rfl, nq, rfl⟩) | (have _t := tok1; go_at_call 42; refine (isFraction_any _ _ _).mono ?_; rintro e w1 ⟨rfl, hb1⟩; clear tok1 _t; have hz1 := hb1.size; (try simp only [sA, sB, sC, sD] at hz1); (try (obtain ⟨kq, qg⟩ := cfAt hb1 (w.heap.size); have qc := kq 0; have qd := kq 1; clear kq; simp [go_sem, *] at qc qd qg)); (try have qi : w.heap.size < w1.heap.size := by omega); (try (obtain ⟨kq, qh⟩ := cfAt hb1 (w.heap.size + 1); have qe := kq 0; have qf := kq 1; clear kq; simp [go_sem, *] at qe qf qh)); (try have qj : w.heap.size + 1 < w1.heap.size := by omega)))
   rw [mkF_no HN.out HD.out (by simp [hf])]
   refine bodyPost_ret (v := .tuple #[.agg #[.int .i64 0, .int .i64 0], .bool false]) (by simp [results, Tryz.results22, go_sem, *]) rfl ⟨rfl, ?_⟩
   exact bel
 ·have q1 := tdiv_bd n (gcdI n d)
  have q2 := tdiv_bd d (gcdI n d)
  have HN := Lib.hid (show mkN n d = (n.tdiv (gcdI n d)) by simp [mkN, hneg])
  have HD := Lib.hid (show mkD n d = (d.tdiv (gcdI n d)) by simp [mkD, hneg])
  have tok1 := trivial
  go_enter Tryz.func22, Tryz.ntmps22
  go_wp2_with (first | (go_at_call 36; refine (gcd_any _ _ _ (by omega) (by omega) (by omega) (by omega)).mono ?_; rintro e w' ⟨rfl, nq, rfl⟩) | (have _t := tok1; go_at_call 42; refine (isFraction_any _ _ _).mono ?_; rintro e w1 ⟨rfl, hb1⟩; clear tok1 _t; have hz1 := hb1.size; (try simp only [sA, sB, sC, sD] at hz1); (try (obtain ⟨kq, qg⟩ := cfAt hb1 (w.heap.size); have qc := kq 0; have qd := kq 1; clear kq; simp [go_sem, *] at qc qd qg)); (try have qi : w.heap.size < w1.heap.size := by omega); (try (obtain ⟨kq, qh⟩ := cfAt hb1 (w.heap.size + 1); have qe := kq 0; have qf := kq 1; clear kq; simp [go_sem, *] at qe qf qh)); (try have qj : w.heap.size + 1 < w1.heap.size := by omega)))
  go_region
  by_cases hf : frB ((n.tdiv (gcdI n d))) ((d.tdiv (gcdI n d))) = true
  ·go_wp2_with (first | (go_at_call 36; refine (gcd_any _ _ _ (by omega) (by omega) (by omega) (by omega)).mono ?_; rintro e w' ⟨rfl, nq, rfl⟩) | (have _t := tok1; go_at_call 42; refine (isFraction_any _ _ _).mono ?_; rintro e w1 ⟨rfl, hb1⟩; clear tok1 _t; have hz1 := hb1.size; (try simp only [sA, sB, sC, sD] at hz1); (try (obtain ⟨kq, qg⟩ := cfAt hb1 (w.heap.size); have qc := kq 0; have qd := kq 1; clear kq; simp [go_sem, *] at qc qd qg)); (try have qi : w.heap.size < w1.heap.size := by omega); (try (obtain ⟨kq, qh⟩ := cfAt hb1 (w.heap.size + 1); have qe := kq 0; have qf := kq 1; clear kq; simp [go_sem, *] at qe qf qh)); (try have qj : w.heap.size + 1 < w1.heap.size := by omega)))
   rw [mkF_yes HN.out HD.out hf]
   refine bodyPost_ret (v := .tuple #[.agg #[.int .i64 ((n.tdiv (gcdI n d))), .int .i64 ((d.tdiv (gcdI n d)))], .bool true]) (by simp [results, Tryz.results22, go_sem, *]) rfl ⟨rfl, ?_⟩
   exact bel
  ·simp only [Bool.not_eq_true] at hf
   go_wp2_with (first | (go_at_call 36; refine (gcd_any _ _ _ (by omega) (by omega) (by omega) (by omega)).mono ?_; rintro e w' ⟨rfl, nq, rfl⟩) | (have _t := tok1; go_at_call 42; refine (isFraction_any _ _ _).mono ?_; rintro e w1 ⟨rfl, hb1⟩; clear tok1 _t; have hz1 := hb1.size; (try simp only [sA, sB, sC, sD] at hz1); (try (obtain ⟨kq, qg⟩ := cfAt hb1 (w.heap.size); have qc := kq 0; have qd := kq 1; clear kq; simp [go_sem, *] at qc qd qg)); (try have qi : w.heap.size < w1.heap.size := by omega); (try (obtain ⟨kq, qh⟩ := cfAt hb1 (w.heap.size + 1); have qe := kq 0; have qf := kq 1; clear kq; simp [go_sem, *] at qe qf qh)); (try have qj : w.heap.size + 1 < w1.heap.size := by omega)))
   rw [mkF_no HN.out HD.out (by simp [hf])]
   refine bodyPost_ret (v := .tuple #[.agg #[.int .i64 0, .int .i64 0], .bool false]) (by simp [results, Tryz.results22, go_sem, *]) rfl ⟨rfl, ?_⟩
   exact bel
theorem frMake_any (n d : Int) (w : World) (hd : d ≠ 0) (h1 : -9223372036854775807 ≤ n) (h2 : n ≤ 9223372036854775807) (h3 : -9223372036854775807 ≤ d) (h4 : d ≤ 9223372036854775807) :
  Calls Tryz.prog 41 #[.int .i64 n, .int .i64 d] w fun e w' => e = .returned (.tuple #[.agg #[.int .i64 (mkF n d).1, .int .i64 (mkF n d).2.1], .bool (mkF n d).2.2]) ∧ Below w.heap.size w w' := by
 have hg := gcdI_pos (a := n) hd
 have hg2 : gcdI n d ≤ 9223372036854775807 := by
  have := gcdI_le (a := n) hd
  unfold absI at this; omega
 have a1 := absI_nonneg n
 have a2 := absI_nonneg d
 have a3 : absI n ≤ 9223372036854775807 := absI_le (by omega) (by omega)
 have a4 : absI d ≤ 9223372036854775807 := absI_le (by omega) (by omega)
 have a5 := gcdI_abs n (absI d)
 have a6 := gcdI_abs2 n d
 by_cases hneg : d < 0
 ·have q1 := tdiv_bd n (gcdI n d)
  have q2 := tdiv_bd d (gcdI n d)
  have HN := Lib.hid (show mkN n d = -(n.tdiv (gcdI n d)) by simp [mkN, hneg])
  have HD := Lib.hid (show mkD n d = -(d.tdiv (gcdI n d)) by simp [mkD, hneg])
  have tok1 := trivial
  go_enter Tryz.func41, Tryz.ntmps41
  go_wp2_with (first | (go_at_call 44; refine (l1Abs_any _ _ (by omega) (by omega)).mono ?_; rintro e w' ⟨rfl, rfl⟩) | (go_at_call 67; refine (common_any _ _ _ (by omega) (by omega) (by omega) (by omega)).mono ?_; rintro e w' ⟨rfl, rfl⟩) | (have _t := tok1; go_at_call 68; refine (frGood_any _ _ _).mono ?_; rintro e w1 ⟨rfl, hb1⟩; clear tok1 _t; have hz1 := hb1.size; (try simp only [sA, sB, sC, sD] at hz1); (try (obtain ⟨kq, qg⟩ := cfAt hb1 (w.heap.size); have qc := kq 0; have qd := kq 1; clear kq; simp [go_sem, *] at qc qd qg)); (try have qi : w.heap.size < w1.heap.size := by omega); (try (obtain ⟨kq, qh⟩ := cfAt hb1 (w.heap.size + 1); have qe := kq 0; have qf := kq 1; clear kq; simp [go_sem, *] at qe qf qh)); (try have qj : w.heap.size + 1 < w1.heap.size := by omega)))
  go_region
  by_cases hf : frB (-(n.tdiv (gcdI n d))) (-(d.tdiv (gcdI n d))) = true
  ·go_wp2_with (first | (go_at_call 44; refine (l1Abs_any _ _ (by omega) (by omega)).mono ?_; rintro e w' ⟨rfl, rfl⟩) | (go_at_call 67; refine (common_any _ _ _ (by omega) (by omega) (by omega) (by omega)).mono ?_; rintro e w' ⟨rfl, rfl⟩) | (have _t := tok1; go_at_call 68; refine (frGood_any _ _ _).mono ?_; rintro e w1 ⟨rfl, hb1⟩; clear tok1 _t; have hz1 := hb1.size; (try simp only [sA, sB, sC, sD] at hz1); (try (obtain ⟨kq, qg⟩ := cfAt hb1 (w.heap.size); have qc := kq 0; have qd := kq 1; clear kq; simp [go_sem, *] at qc qd qg)); (try have qi : w.heap.size < w1.heap.size := by omega); (try (obtain ⟨kq, qh⟩ := cfAt hb1 (w.heap.size + 1); have qe := kq 0; have qf := kq 1; clear kq; simp [go_sem, *] at qe qf qh)); (try have qj : w.heap.size + 1 < w1.heap.size := by omega)))
   rw [mkF_yes HN.out HD.out hf]
   refine bodyPost_ret (v := .tuple #[.agg #[.int .i64 (-(n.tdiv (gcdI n d))), .int .i64 (-(d.tdiv (gcdI n d)))], .bool true]) (by simp [results, Tryz.results41, go_sem, *]) rfl ⟨rfl, ?_⟩
   exact bel
  ·simp only [Bool.not_eq_true] at hf
   go_wp2_with (first | (go_at_call 44; refine (l1Abs_any _ _ (by omega) (by omega)).mono ?_; rintro e w' ⟨rfl, rfl⟩) | (go_at_call 67; refine (common_any _ _ _ (by omega) (by omega) (by omega) (by omega)).mono ?_; rintro e w' ⟨rfl, rfl⟩) | (have _t := tok1; go_at_call 68; refine (frGood_any _ _ _).mono ?_; rintro e w1 ⟨rfl, hb1⟩; clear tok1 _t; have hz1 := hb1.size; (try simp only [sA, sB, sC, sD] at hz1); (try (obtain ⟨kq, qg⟩ := cfAt hb1 (w.heap.size); have qc := kq 0; have qd := kq 1; clear kq; simp [go_sem, *] at qc qd qg)); (try have qi : w.heap.size < w1.heap.size := by omega); (try (obtain ⟨kq, qh⟩ := cfAt hb1 (w.heap.size + 1); have qe := kq 0; have qf := kq 1; clear kq; simp [go_sem, *] at qe qf qh)); (try have qj : w.heap.size + 1 < w1.heap.size := by omega)))
   rw [mkF_no HN.out HD.out (by simp [hf])]
   refine bodyPost_ret (v := .tuple #[.agg #[.int .i64 0, .int .i64 0], .bool false]) (by simp [results, Tryz.results41, go_sem, *]) rfl ⟨rfl, ?_⟩
   exact bel
 ·have q1 := tdiv_bd n (gcdI n d)
  have q2 := tdiv_bd d (gcdI n d)
  have HN := Lib.hid (show mkN n d = (n.tdiv (gcdI n d)) by simp [mkN, hneg])
  have HD := Lib.hid (show mkD n d = (d.tdiv (gcdI n d)) by simp [mkD, hneg])
  have tok1 := trivial
  go_enter Tryz.func41, Tryz.ntmps41
  go_wp2_with (first | (go_at_call 44; refine (l1Abs_any _ _ (by omega) (by omega)).mono ?_; rintro e w' ⟨rfl, rfl⟩) | (go_at_call 67; refine (common_any _ _ _ (by omega) (by omega) (by omega) (by omega)).mono ?_; rintro e w' ⟨rfl, rfl⟩) | (have _t := tok1; go_at_call 68; refine (frGood_any _ _ _).mono ?_; rintro e w1 ⟨rfl, hb1⟩; clear tok1 _t; have hz1 := hb1.size; (try simp only [sA, sB, sC, sD] at hz1); (try (obtain ⟨kq, qg⟩ := cfAt hb1 (w.heap.size); have qc := kq 0; have qd := kq 1; clear kq; simp [go_sem, *] at qc qd qg)); (try have qi : w.heap.size < w1.heap.size := by omega); (try (obtain ⟨kq, qh⟩ := cfAt hb1 (w.heap.size + 1); have qe := kq 0; have qf := kq 1; clear kq; simp [go_sem, *] at qe qf qh)); (try have qj : w.heap.size + 1 < w1.heap.size := by omega)))
  go_region
  by_cases hf : frB ((n.tdiv (gcdI n d))) ((d.tdiv (gcdI n d))) = true
  ·go_wp2_with (first | (go_at_call 44; refine (l1Abs_any _ _ (by omega) (by omega)).mono ?_; rintro e w' ⟨rfl, rfl⟩) | (go_at_call 67; refine (common_any _ _ _ (by omega) (by omega) (by omega) (by omega)).mono ?_; rintro e w' ⟨rfl, rfl⟩) | (have _t := tok1; go_at_call 68; refine (frGood_any _ _ _).mono ?_; rintro e w1 ⟨rfl, hb1⟩; clear tok1 _t; have hz1 := hb1.size; (try simp only [sA, sB, sC, sD] at hz1); (try (obtain ⟨kq, qg⟩ := cfAt hb1 (w.heap.size); have qc := kq 0; have qd := kq 1; clear kq; simp [go_sem, *] at qc qd qg)); (try have qi : w.heap.size < w1.heap.size := by omega); (try (obtain ⟨kq, qh⟩ := cfAt hb1 (w.heap.size + 1); have qe := kq 0; have qf := kq 1; clear kq; simp [go_sem, *] at qe qf qh)); (try have qj : w.heap.size + 1 < w1.heap.size := by omega)))
   rw [mkF_yes HN.out HD.out hf]
   refine bodyPost_ret (v := .tuple #[.agg #[.int .i64 ((n.tdiv (gcdI n d))), .int .i64 ((d.tdiv (gcdI n d)))], .bool true]) (by simp [results, Tryz.results41, go_sem, *]) rfl ⟨rfl, ?_⟩
   exact bel
  ·simp only [Bool.not_eq_true] at hf
   go_wp2_with (first | (go_at_call 44; refine (l1Abs_any _ _ (by omega) (by omega)).mono ?_; rintro e w' ⟨rfl, rfl⟩) | (go_at_call 67; refine (common_any _ _ _ (by omega) (by omega) (by omega) (by omega)).mono ?_; rintro e w' ⟨rfl, rfl⟩) | (have _t := tok1; go_at_call 68; refine (frGood_any _ _ _).mono ?_; rintro e w1 ⟨rfl, hb1⟩; clear tok1 _t; have hz1 := hb1.size; (try simp only [sA, sB, sC, sD] at hz1); (try (obtain ⟨kq, qg⟩ := cfAt hb1 (w.heap.size); have qc := kq 0; have qd := kq 1; clear kq; simp [go_sem, *] at qc qd qg)); (try have qi : w.heap.size < w1.heap.size := by omega); (try (obtain ⟨kq, qh⟩ := cfAt hb1 (w.heap.size + 1); have qe := kq 0; have qf := kq 1; clear kq; simp [go_sem, *] at qe qf qh)); (try have qj : w.heap.size + 1 < w1.heap.size := by omega)))
   rw [mkF_no HN.out HD.out (by simp [hf])]
   refine bodyPost_ret (v := .tuple #[.agg #[.int .i64 0, .int .i64 0], .bool false]) (by simp [results, Tryz.results41, go_sem, *]) rfl ⟨rfl, ?_⟩
   exact bel
end Go.Proofs.YtnkmgpmehkholaaGreat
