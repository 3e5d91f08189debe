/- Contracts of the program's intervals. -/
import Derived.Test.YthifeabcobgbmaaFrac
import Derived.Test.YthifeabcobgbmaaIvPlain
import Derived.Test.YthifeabcobgbmaaDrawn
namespace Go.Proofs.Ythifeabcobgbmaa
open Go.RowKit
set_option linter.unusedVariables false
set_option maxHeartbeats 4000000
set_option linter.unusedSimpArgs false

theorem valid_any (a b : Int) (w : World) : Calls Try.prog 51 #[.agg #[.int .i64 a, .int .i64 b]] w fun e w' => e = .returned (.bool (validB a b)) ∧ Below w.heap.size w w' := by
  go_enter Try.func51, Try.ntmps51
  go_wp2
  all_goals
    go_ret
    refine ⟨ret_bool ?_, ?_⟩
    · unfold validB; rw [Bool.eq_iff_iff]; simp; try omega
    repeat' first | (with_reducible first | apply zRf | assumption | apply zDn | apply zDr | apply zAl | apply zSt | refine zVi (by assumption) ?_ ?_) | go_size

theorem spanOf_any (n1 d1 n2 d2 : Int) (w : World) : Calls Try.prog 41 #[.agg #[.int .i64 n1, .int .i64 d1, .int .i64 n2, .int .i64 d2]] w fun e w' =>
    e = .returned (.tuple #[.agg #[.int .i64 (spLo n1 d1 n2 d2), .int .i64 (spHi n1 d1 n2 d2)], .bool (goodB n1 d1 n2 d2)]) ∧ Below w.heap.size w w' := by
  have hno : ∀ h : (pre1 n1 d1 && pre1 n2 d2) = false, spLo n1 d1 n2 d2 = 0 ∧ spHi n1 d1 n2 d2 = 0 ∧ goodB n1 d1 n2 d2 = false := fun h => ⟨by simp [spLo, h], by simp [spHi, h], by rw [goodB_eq, h]; rfl⟩
  by_cases h1 : frB n1 d1 = true
  · have b1 := frB_bd h1
    by_cases h2 : frB n2 d2 = true
    · have b2 := frB_bd h2
      by_cases h3 : 4096 % d1 = 0
      · by_cases h4 : 4096 % d2 = 0
        · have p1 : pre1 n1 d1 = true := by simp [pre1, h1, h3]
          have p2 : pre1 n2 d2 = true := by simp [pre1, h2, h4]
          have q1 := quo_bd d1 (by omega)
          have q2 := quo_bd d2 (by omega)
          have m1 := mul_bd (a := n1) (b := 4096 / d1) (A := 1000000000) (B := 4096) (by omega) (by omega)
          have m2 := mul_bd (a := n2) (b := 4096 / d2) (A := 1000000000) (B := 4096) (by omega) (by omega)
          have HY := Lib.hid (show spLo n1 d1 n2 d2 = n1 * (4096 / d1) ∧ spHi n1 d1 n2 d2 = n2 * (4096 / d2) ∧ goodB n1 d1 n2 d2 = validB (n1 * (4096 / d1)) (n2 * (4096 / d2)) from
            ⟨by simp [spLo, p1, p2, plN], by simp [spHi, p1, p2, plN], by rw [goodB_eq, p1, p2, plN_pre p1, plN_pre p2]; rfl⟩)
          clear hno p1 p2
          have tok1 : True := trivial
          have tok2 : True := trivial
          go_enter Try.func41, Try.ntmps41
          go_wp2_with (first | (have _t := tok1; go_at_call 61; refine (isFraction_any _ _ _).mono ?_; rintro e w1 ⟨rfl, hb1⟩; clear tok1 _t; have hz1 := hb1.size; (try simp only [World.size_alloc, World.size_setCell, World.size_drew, World.size_drewN'] at hz1); (try (have kq := cellAt hb1 (w.heap.size) (by go_size); have k1_w_0_0 := kq 0; have k1_w_0_1 := kq 1; have k1_w_0_2 := kq 2; have k1_w_0_3 := kq 3; clear kq; have f1_w_0 := frozAt hb1 (w.heap.size) (by go_size); simp [go_sem, *] at k1_w_0_0 k1_w_0_1 k1_w_0_2 k1_w_0_3 f1_w_0)); (try have l1_w_0 : w.heap.size < w1.heap.size := by omega); (try (have kq := cellAt hb1 (w.heap.size + 1) (by go_size); have k1_w_1_0 := kq 0; have k1_w_1_1 := kq 1; clear kq; have f1_w_1 := frozAt hb1 (w.heap.size + 1) (by go_size); simp [go_sem, *] at k1_w_1_0 k1_w_1_1 f1_w_1)); (try have l1_w_1 : w.heap.size + 1 < w1.heap.size := by omega)) | (have _t := tok2; go_at_call 61; refine (isFraction_any _ _ _).mono ?_; rintro e w2 ⟨rfl, hb2⟩; clear tok2 _t; have hz2 := hb2.size; (try simp only [World.size_alloc, World.size_setCell, World.size_drew, World.size_drewN'] at hz2); (try (have kq := cellAt hb2 (w.heap.size) (by go_size); have k2_w_0_0 := kq 0; have k2_w_0_1 := kq 1; have k2_w_0_2 := kq 2; have k2_w_0_3 := kq 3; clear kq; have f2_w_0 := frozAt hb2 (w.heap.size) (by go_size); simp [go_sem, *] at k2_w_0_0 k2_w_0_1 k2_w_0_2 k2_w_0_3 f2_w_0)); (try have l2_w_0 : w.heap.size < w2.heap.size := by omega); (try (have kq := cellAt hb2 (w.heap.size + 1) (by go_size); have k2_w_1_0 := kq 0; have k2_w_1_1 := kq 1; clear kq; have f2_w_1 := frozAt hb2 (w.heap.size + 1) (by go_size); simp [go_sem, *] at k2_w_1_0 k2_w_1_1 f2_w_1)); (try have l2_w_1 : w.heap.size + 1 < w2.heap.size := by omega); (try clear k1_w_0_0 k1_w_0_1 k1_w_0_2 k1_w_0_3 f1_w_0); (try clear l1_w_0); (try clear k1_w_1_0 k1_w_1_1 f1_w_1); (try clear l1_w_1)))
          refine wp_drawn_new' (n := 17) 4 45 #[.int .i64 0, .int .i64 0] (by kernel_rfl) (by kernel_rfl) (by kernel_rfl) ⟨_, rfl, rfl, rfl, fun _ _ => by simp [go_sem]⟩ ?_
          apply Exists.intro
          refine ⟨?_, ?_⟩
          · intro W hW
            try (have kx_w_0_0 := fun x => xcell hW (w.heap.size) (by go_size) x 0; simp [go_sem, *] at kx_w_0_0)
            try (have kx_w_0_1 := fun x => xcell hW (w.heap.size) (by go_size) x 1; simp [go_sem, *] at kx_w_0_1)
            try (have kx_w_0_2 := fun x => xcell hW (w.heap.size) (by go_size) x 2; simp [go_sem, *] at kx_w_0_2)
            try (have kx_w_0_3 := fun x => xcell hW (w.heap.size) (by go_size) x 3; simp [go_sem, *] at kx_w_0_3)
            try (have kx_w_1_0 := fun x => xcell hW (w.heap.size + 1) (by go_size) x 0; simp [go_sem, *] at kx_w_1_0)
            try (have kx_w_1_1 := fun x => xcell hW (w.heap.size + 1) (by go_size) x 1; simp [go_sem, *] at kx_w_1_1)
            simp only [List.take_succ_cons, List.take_zero]
            repeat (go_big_quiet_step (fail))
            exact wpQuiet_nil rfl
          intro g3 w3 hb3 hg3 hk3
          try simp only [World.size_alloc, World.size_setCell, World.size_drew, World.size_drewN'] at hg3
          try have lg3_w_0 : w.heap.size < g3 := by omega
          try have lg3_w_1 : w.heap.size + 1 < g3 := by omega
          simp only [List.drop_succ_cons, List.drop_zero, Act.put, List.setIfInBounds_toArray, List.set_cons_succ, List.set_cons_zero]
          have hz3 := hb3.size
          (try simp only [World.size_alloc, World.size_setCell, World.size_drew, World.size_drewN'] at hz3)
          (try (have kq := cellAt hb3 (w.heap.size) (by go_size); have k3_w_0_0 := kq 0; have k3_w_0_1 := kq 1; have k3_w_0_2 := kq 2; have k3_w_0_3 := kq 3; clear kq; have f3_w_0 := frozAt hb3 (w.heap.size) (by go_size); simp [go_sem, *] at k3_w_0_0 k3_w_0_1 k3_w_0_2 k3_w_0_3 f3_w_0))
          (try have l3_w_0 : w.heap.size < w3.heap.size := by omega)
          (try (have kq := cellAt hb3 (w.heap.size + 1) (by go_size); have k3_w_1_0 := kq 0; have k3_w_1_1 := kq 1; clear kq; have f3_w_1 := frozAt hb3 (w.heap.size + 1) (by go_size); simp [go_sem, *] at k3_w_1_0 k3_w_1_1 f3_w_1))
          (try have l3_w_1 : w.heap.size + 1 < w3.heap.size := by omega)
          (try clear k1_w_0_0 k1_w_0_1 k1_w_0_2 k1_w_0_3 f1_w_0)
          (try clear l1_w_0)
          (try clear k1_w_1_0 k1_w_1_1 f1_w_1)
          (try clear l1_w_1)
          (try clear k2_w_0_0 k2_w_0_1 k2_w_0_2 k2_w_0_3 f2_w_0)
          (try clear l2_w_0)
          (try clear k2_w_1_0 k2_w_1_1 f2_w_1)
          (try clear l2_w_1)
          have kg3 := blk_cell hk3
          have fg3 := blk_frozen hk3
          have lg3 := blk_lt hk3
          go_wp2
          refine wp_drawn' (n := 3) (by kernel_rfl) (by kernel_rfl) (by kernel_rfl) ?_
          apply Exists.intro
          refine ⟨?_, ?_⟩
          · intro W hW
            try (have kx_w_0_0 := fun x => xcell hW (w.heap.size) (by go_size) x 0; simp [go_sem, *] at kx_w_0_0)
            try (have kx_w_0_1 := fun x => xcell hW (w.heap.size) (by go_size) x 1; simp [go_sem, *] at kx_w_0_1)
            try (have kx_w_0_2 := fun x => xcell hW (w.heap.size) (by go_size) x 2; simp [go_sem, *] at kx_w_0_2)
            try (have kx_w_0_3 := fun x => xcell hW (w.heap.size) (by go_size) x 3; simp [go_sem, *] at kx_w_0_3)
            try (have kx_w_1_0 := fun x => xcell hW (w.heap.size + 1) (by go_size) x 0; simp [go_sem, *] at kx_w_1_0)
            try (have kx_w_1_1 := fun x => xcell hW (w.heap.size + 1) (by go_size) x 1; simp [go_sem, *] at kx_w_1_1)
            try (have kx_g3_0 := fun x => xcell hW (g3) (by go_size) x 0; simp [go_sem, *] at kx_g3_0)
            try (have kx_g3_1 := fun x => xcell hW (g3) (by go_size) x 1; simp [go_sem, *] at kx_g3_1)
            simp only [List.take_succ_cons, List.take_zero]
            repeat (go_big_quiet_step ((first | (go_at_call 51; exact draw_of _ (valid_any _ _ _)))))
            exact wpQuiet_nil rfl
          intro w4 hb4
          simp only [List.drop_succ_cons, List.drop_zero, Act.put, List.setIfInBounds_toArray, List.set_cons_succ, List.set_cons_zero]
          have hz4 := hb4.size
          (try simp only [World.size_alloc, World.size_setCell, World.size_drew, World.size_drewN'] at hz4)
          (try (have kq := cellAt hb4 (w.heap.size) (by go_size); have k4_w_0_0 := kq 0; have k4_w_0_1 := kq 1; have k4_w_0_2 := kq 2; have k4_w_0_3 := kq 3; clear kq; have f4_w_0 := frozAt hb4 (w.heap.size) (by go_size); simp [go_sem, *] at k4_w_0_0 k4_w_0_1 k4_w_0_2 k4_w_0_3 f4_w_0))
          (try have l4_w_0 : w.heap.size < w4.heap.size := by omega)
          (try (have kq := cellAt hb4 (w.heap.size + 1) (by go_size); have k4_w_1_0 := kq 0; have k4_w_1_1 := kq 1; clear kq; have f4_w_1 := frozAt hb4 (w.heap.size + 1) (by go_size); simp [go_sem, *] at k4_w_1_0 k4_w_1_1 f4_w_1))
          (try have l4_w_1 : w.heap.size + 1 < w4.heap.size := by omega)
          (try (have kq := cellAt hb4 (g3) (by go_size); have k4_g3_0 := kq 0; have k4_g3_1 := kq 1; clear kq; have f4_g3 := frozAt hb4 (g3) (by go_size); simp [go_sem, *] at k4_g3_0 k4_g3_1 f4_g3))
          (try have l4_g3 : g3 < w4.heap.size := by omega)
          (try clear k1_w_0_0 k1_w_0_1 k1_w_0_2 k1_w_0_3 f1_w_0)
          (try clear l1_w_0)
          (try clear k1_w_1_0 k1_w_1_1 f1_w_1)
          (try clear l1_w_1)
          (try clear k2_w_0_0 k2_w_0_1 k2_w_0_2 k2_w_0_3 f2_w_0)
          (try clear l2_w_0)
          (try clear k2_w_1_0 k2_w_1_1 f2_w_1)
          (try clear l2_w_1)
          (try clear k3_w_0_0 k3_w_0_1 k3_w_0_2 k3_w_0_3 f3_w_0)
          (try clear l3_w_0)
          (try clear k3_w_1_0 k3_w_1_1 f3_w_1)
          (try clear l3_w_1)
          go_wp2
          rw [HY.out.1, HY.out.2.1, HY.out.2.2]
          refine bodyPost_ret (v := .tuple #[.agg #[.int .i64 (n1 * (4096 / d1)), .int .i64 (n2 * (4096 / d2))], .bool (validB (n1 * (4096 / d1)) (n2 * (4096 / d2)))]) (by simp [results, Try.results41, go_sem, *]) rfl ⟨rfl, ?_⟩
          repeat' first | (with_reducible first | apply zRf | assumption | apply zDn | apply zDr | apply zAl | apply zSt | refine zVi (by assumption) ?_ ?_) | go_size
        · have p : (pre1 n1 d1 && pre1 n2 d2) = false := by simp [pre1, h4]
          have HN := Lib.hid (hno p); clear hno p
          have tok1 : True := trivial
          have tok2 : True := trivial
          go_enter Try.func41, Try.ntmps41
          go_wp2_with (first | (have _t := tok1; go_at_call 61; refine (isFraction_any _ _ _).mono ?_; rintro e w1 ⟨rfl, hb1⟩; clear tok1 _t; have hz1 := hb1.size; (try simp only [World.size_alloc, World.size_setCell, World.size_drew, World.size_drewN'] at hz1); (try (have kq := cellAt hb1 (w.heap.size) (by go_size); have k1_w_0_0 := kq 0; have k1_w_0_1 := kq 1; have k1_w_0_2 := kq 2; have k1_w_0_3 := kq 3; clear kq; have f1_w_0 := frozAt hb1 (w.heap.size) (by go_size); simp [go_sem, *] at k1_w_0_0 k1_w_0_1 k1_w_0_2 k1_w_0_3 f1_w_0)); (try have l1_w_0 : w.heap.size < w1.heap.size := by omega); (try (have kq := cellAt hb1 (w.heap.size + 1) (by go_size); have k1_w_1_0 := kq 0; have k1_w_1_1 := kq 1; clear kq; have f1_w_1 := frozAt hb1 (w.heap.size + 1) (by go_size); simp [go_sem, *] at k1_w_1_0 k1_w_1_1 f1_w_1)); (try have l1_w_1 : w.heap.size + 1 < w1.heap.size := by omega)) | (have _t := tok2; go_at_call 61; refine (isFraction_any _ _ _).mono ?_; rintro e w2 ⟨rfl, hb2⟩; clear tok2 _t; have hz2 := hb2.size; (try simp only [World.size_alloc, World.size_setCell, World.size_drew, World.size_drewN'] at hz2); (try (have kq := cellAt hb2 (w.heap.size) (by go_size); have k2_w_0_0 := kq 0; have k2_w_0_1 := kq 1; have k2_w_0_2 := kq 2; have k2_w_0_3 := kq 3; clear kq; have f2_w_0 := frozAt hb2 (w.heap.size) (by go_size); simp [go_sem, *] at k2_w_0_0 k2_w_0_1 k2_w_0_2 k2_w_0_3 f2_w_0)); (try have l2_w_0 : w.heap.size < w2.heap.size := by omega); (try (have kq := cellAt hb2 (w.heap.size + 1) (by go_size); have k2_w_1_0 := kq 0; have k2_w_1_1 := kq 1; clear kq; have f2_w_1 := frozAt hb2 (w.heap.size + 1) (by go_size); simp [go_sem, *] at k2_w_1_0 k2_w_1_1 f2_w_1)); (try have l2_w_1 : w.heap.size + 1 < w2.heap.size := by omega); (try clear k1_w_0_0 k1_w_0_1 k1_w_0_2 k1_w_0_3 f1_w_0); (try clear l1_w_0); (try clear k1_w_1_0 k1_w_1_1 f1_w_1); (try clear l1_w_1)))
          rw [HN.out.1, HN.out.2.1, HN.out.2.2]
          refine bodyPost_ret (v := .tuple #[.agg #[.int .i64 0, .int .i64 0], .bool false]) (by simp [results, Try.results41, go_sem, *]) rfl ⟨rfl, ?_⟩
          repeat' first | (with_reducible first | apply zRf | assumption | apply zDn | apply zDr | apply zAl | apply zSt | refine zVi (by assumption) ?_ ?_) | go_size
      · have p : (pre1 n1 d1 && pre1 n2 d2) = false := by simp [pre1, h3]
        have HN := Lib.hid (hno p); clear hno p
        have tok1 : True := trivial
        have tok2 : True := trivial
        go_enter Try.func41, Try.ntmps41
        go_wp2_with (first | (have _t := tok1; go_at_call 61; refine (isFraction_any _ _ _).mono ?_; rintro e w1 ⟨rfl, hb1⟩; clear tok1 _t; have hz1 := hb1.size; (try simp only [World.size_alloc, World.size_setCell, World.size_drew, World.size_drewN'] at hz1); (try (have kq := cellAt hb1 (w.heap.size) (by go_size); have k1_w_0_0 := kq 0; have k1_w_0_1 := kq 1; have k1_w_0_2 := kq 2; have k1_w_0_3 := kq 3; clear kq; have f1_w_0 := frozAt hb1 (w.heap.size) (by go_size); simp [go_sem, *] at k1_w_0_0 k1_w_0_1 k1_w_0_2 k1_w_0_3 f1_w_0)); (try have l1_w_0 : w.heap.size < w1.heap.size := by omega); (try (have kq := cellAt hb1 (w.heap.size + 1) (by go_size); have k1_w_1_0 := kq 0; have k1_w_1_1 := kq 1; clear kq; have f1_w_1 := frozAt hb1 (w.heap.size + 1) (by go_size); simp [go_sem, *] at k1_w_1_0 k1_w_1_1 f1_w_1)); (try have l1_w_1 : w.heap.size + 1 < w1.heap.size := by omega)) | (have _t := tok2; go_at_call 61; refine (isFraction_any _ _ _).mono ?_; rintro e w2 ⟨rfl, hb2⟩; clear tok2 _t; have hz2 := hb2.size; (try simp only [World.size_alloc, World.size_setCell, World.size_drew, World.size_drewN'] at hz2); (try (have kq := cellAt hb2 (w.heap.size) (by go_size); have k2_w_0_0 := kq 0; have k2_w_0_1 := kq 1; have k2_w_0_2 := kq 2; have k2_w_0_3 := kq 3; clear kq; have f2_w_0 := frozAt hb2 (w.heap.size) (by go_size); simp [go_sem, *] at k2_w_0_0 k2_w_0_1 k2_w_0_2 k2_w_0_3 f2_w_0)); (try have l2_w_0 : w.heap.size < w2.heap.size := by omega); (try (have kq := cellAt hb2 (w.heap.size + 1) (by go_size); have k2_w_1_0 := kq 0; have k2_w_1_1 := kq 1; clear kq; have f2_w_1 := frozAt hb2 (w.heap.size + 1) (by go_size); simp [go_sem, *] at k2_w_1_0 k2_w_1_1 f2_w_1)); (try have l2_w_1 : w.heap.size + 1 < w2.heap.size := by omega); (try clear k1_w_0_0 k1_w_0_1 k1_w_0_2 k1_w_0_3 f1_w_0); (try clear l1_w_0); (try clear k1_w_1_0 k1_w_1_1 f1_w_1); (try clear l1_w_1)))
        rw [HN.out.1, HN.out.2.1, HN.out.2.2]
        refine bodyPost_ret (v := .tuple #[.agg #[.int .i64 0, .int .i64 0], .bool false]) (by simp [results, Try.results41, go_sem, *]) rfl ⟨rfl, ?_⟩
        repeat' first | (with_reducible first | apply zRf | assumption | apply zDn | apply zDr | apply zAl | apply zSt | refine zVi (by assumption) ?_ ?_) | go_size
    · simp only [Bool.not_eq_true] at h2
      have p : (pre1 n1 d1 && pre1 n2 d2) = false := by simp [pre1, h2]
      have HN := Lib.hid (hno p); clear hno p
      have tok1 : True := trivial
      have tok2 : True := trivial
      go_enter Try.func41, Try.ntmps41
      go_wp2_with (first | (have _t := tok1; go_at_call 61; refine (isFraction_any _ _ _).mono ?_; rintro e w1 ⟨rfl, hb1⟩; clear tok1 _t; have hz1 := hb1.size; (try simp only [World.size_alloc, World.size_setCell, World.size_drew, World.size_drewN'] at hz1); (try (have kq := cellAt hb1 (w.heap.size) (by go_size); have k1_w_0_0 := kq 0; have k1_w_0_1 := kq 1; have k1_w_0_2 := kq 2; have k1_w_0_3 := kq 3; clear kq; have f1_w_0 := frozAt hb1 (w.heap.size) (by go_size); simp [go_sem, *] at k1_w_0_0 k1_w_0_1 k1_w_0_2 k1_w_0_3 f1_w_0)); (try have l1_w_0 : w.heap.size < w1.heap.size := by omega); (try (have kq := cellAt hb1 (w.heap.size + 1) (by go_size); have k1_w_1_0 := kq 0; have k1_w_1_1 := kq 1; clear kq; have f1_w_1 := frozAt hb1 (w.heap.size + 1) (by go_size); simp [go_sem, *] at k1_w_1_0 k1_w_1_1 f1_w_1)); (try have l1_w_1 : w.heap.size + 1 < w1.heap.size := by omega)) | (have _t := tok2; go_at_call 61; refine (isFraction_any _ _ _).mono ?_; rintro e w2 ⟨rfl, hb2⟩; clear tok2 _t; have hz2 := hb2.size; (try simp only [World.size_alloc, World.size_setCell, World.size_drew, World.size_drewN'] at hz2); (try (have kq := cellAt hb2 (w.heap.size) (by go_size); have k2_w_0_0 := kq 0; have k2_w_0_1 := kq 1; have k2_w_0_2 := kq 2; have k2_w_0_3 := kq 3; clear kq; have f2_w_0 := frozAt hb2 (w.heap.size) (by go_size); simp [go_sem, *] at k2_w_0_0 k2_w_0_1 k2_w_0_2 k2_w_0_3 f2_w_0)); (try have l2_w_0 : w.heap.size < w2.heap.size := by omega); (try (have kq := cellAt hb2 (w.heap.size + 1) (by go_size); have k2_w_1_0 := kq 0; have k2_w_1_1 := kq 1; clear kq; have f2_w_1 := frozAt hb2 (w.heap.size + 1) (by go_size); simp [go_sem, *] at k2_w_1_0 k2_w_1_1 f2_w_1)); (try have l2_w_1 : w.heap.size + 1 < w2.heap.size := by omega); (try clear k1_w_0_0 k1_w_0_1 k1_w_0_2 k1_w_0_3 f1_w_0); (try clear l1_w_0); (try clear k1_w_1_0 k1_w_1_1 f1_w_1); (try clear l1_w_1)))
      rw [HN.out.1, HN.out.2.1, HN.out.2.2]
      refine bodyPost_ret (v := .tuple #[.agg #[.int .i64 0, .int .i64 0], .bool false]) (by simp [results, Try.results41, go_sem, *]) rfl ⟨rfl, ?_⟩
      repeat' first | (with_reducible first | apply zRf | assumption | apply zDn | apply zDr | apply zAl | apply zSt | refine zVi (by assumption) ?_ ?_) | go_size
  · simp only [Bool.not_eq_true] at h1
    have p : (pre1 n1 d1 && pre1 n2 d2) = false := by simp [pre1, h1]
    have HN := Lib.hid (hno p); clear hno p
    have tok1 : True := trivial
    have tok2 : True := trivial
    go_enter Try.func41, Try.ntmps41
    go_wp2_with (first | (have _t := tok1; go_at_call 61; refine (isFraction_any _ _ _).mono ?_; rintro e w1 ⟨rfl, hb1⟩; clear tok1 _t; have hz1 := hb1.size; (try simp only [World.size_alloc, World.size_setCell, World.size_drew, World.size_drewN'] at hz1); (try (have kq := cellAt hb1 (w.heap.size) (by go_size); have k1_w_0_0 := kq 0; have k1_w_0_1 := kq 1; have k1_w_0_2 := kq 2; have k1_w_0_3 := kq 3; clear kq; have f1_w_0 := frozAt hb1 (w.heap.size) (by go_size); simp [go_sem, *] at k1_w_0_0 k1_w_0_1 k1_w_0_2 k1_w_0_3 f1_w_0)); (try have l1_w_0 : w.heap.size < w1.heap.size := by omega); (try (have kq := cellAt hb1 (w.heap.size + 1) (by go_size); have k1_w_1_0 := kq 0; have k1_w_1_1 := kq 1; clear kq; have f1_w_1 := frozAt hb1 (w.heap.size + 1) (by go_size); simp [go_sem, *] at k1_w_1_0 k1_w_1_1 f1_w_1)); (try have l1_w_1 : w.heap.size + 1 < w1.heap.size := by omega)) | (have _t := tok2; go_at_call 61; refine (isFraction_any _ _ _).mono ?_; rintro e w2 ⟨rfl, hb2⟩; clear tok2 _t; have hz2 := hb2.size; (try simp only [World.size_alloc, World.size_setCell, World.size_drew, World.size_drewN'] at hz2); (try (have kq := cellAt hb2 (w.heap.size) (by go_size); have k2_w_0_0 := kq 0; have k2_w_0_1 := kq 1; have k2_w_0_2 := kq 2; have k2_w_0_3 := kq 3; clear kq; have f2_w_0 := frozAt hb2 (w.heap.size) (by go_size); simp [go_sem, *] at k2_w_0_0 k2_w_0_1 k2_w_0_2 k2_w_0_3 f2_w_0)); (try have l2_w_0 : w.heap.size < w2.heap.size := by omega); (try (have kq := cellAt hb2 (w.heap.size + 1) (by go_size); have k2_w_1_0 := kq 0; have k2_w_1_1 := kq 1; clear kq; have f2_w_1 := frozAt hb2 (w.heap.size + 1) (by go_size); simp [go_sem, *] at k2_w_1_0 k2_w_1_1 f2_w_1)); (try have l2_w_1 : w.heap.size + 1 < w2.heap.size := by omega); (try clear k1_w_0_0 k1_w_0_1 k1_w_0_2 k1_w_0_3 f1_w_0); (try clear l1_w_0); (try clear k1_w_1_0 k1_w_1_1 f1_w_1); (try clear l1_w_1)))
    rw [HN.out.1, HN.out.2.1, HN.out.2.2]
    refine bodyPost_ret (v := .tuple #[.agg #[.int .i64 0, .int .i64 0], .bool false]) (by simp [results, Try.results41, go_sem, *]) rfl ⟨rfl, ?_⟩
    repeat' first | (with_reducible first | apply zRf | assumption | apply zDn | apply zDr | apply zAl | apply zSt | refine zVi (by assumption) ?_ ?_) | go_size

theorem span_bd {a b : Int} (h : validB a b = true) : -409600000 ≤ a ∧ a ≤ 409600000 ∧ -409600000 ≤ b ∧ b ≤ 409600000 := by
  have := validB_bd h; omega
theorem makeGrid_any (a : Int) (w : World) (h1 : -409600000 ≤ a) (h2 : a ≤ 409600000) :
    Calls Try.prog 52 #[.int .i64 a, .int .i64 4096] w fun e w' => e = .returned (.tuple #[.agg #[.int .i64 (mkN a 4096), .int .i64 (mkD a 4096)], .bool true]) ∧ Below w.heap.size w w' := by
  have := makeFraction_any a 4096 w (by omega) (by omega) (by omega) (by omega) (by omega)
  rw [mkF_grid (by omega) (by omega)] at this
  exact this
theorem interval_any (a b : Int) (ok : Bool) (w : World) : Calls Try.prog 27 #[.agg #[.int .i64 a, .int .i64 b], .bool ok] w fun e w' => e = .returned (ivV ok a b) ∧ Below w.heap.size w w' := by
  have hnot : ∀ (x : Bool) (w : World), (Op.unary .not (.bool x)).run Try.prog w = .ok (.bool (!x)) w := fun _ _ => rfl
  cases ok
  · have HN := Lib.hid (ivV_no (ok := false) (a := a) (b := b) rfl)
    have tok1 : True := trivial
    have tok2 : True := trivial
    have tok3 : True := trivial
    go_enter Try.func27, Try.ntmps27
    go_wp2_with (first | (have _t := tok1; go_at_call 51; refine (valid_any _ _ _).mono ?_; rintro e w1 ⟨rfl, hb1⟩; clear tok1 _t; have hz1 := hb1.size; (try simp only [World.size_alloc, World.size_setCell, World.size_drew, World.size_drewN'] at hz1); (try (have kq := cellAt hb1 (w.heap.size) (by go_size); have k1_w_0_0 := kq 0; have k1_w_0_1 := kq 1; clear kq; have f1_w_0 := frozAt hb1 (w.heap.size) (by go_size); simp [go_sem, *] at k1_w_0_0 k1_w_0_1 f1_w_0)); (try have l1_w_0 : w.heap.size < w1.heap.size := by omega); (try (have kq := cellAt hb1 (w.heap.size + 1) (by go_size); have k1_w_1_0 := kq 0; have k1_w_1_1 := kq 1; have k1_w_1_2 := kq 2; have k1_w_1_3 := kq 3; clear kq; have f1_w_1 := frozAt hb1 (w.heap.size + 1) (by go_size); simp [go_sem, *] at k1_w_1_0 k1_w_1_1 k1_w_1_2 k1_w_1_3 f1_w_1)); (try have l1_w_1 : w.heap.size + 1 < w1.heap.size := by omega)) | (have _t := tok2; go_at_call 52; refine (makeGrid_any _ _ (by omega) (by omega)).mono ?_; rintro e w2 ⟨rfl, hb2⟩; clear tok2 _t; have hz2 := hb2.size; (try simp only [World.size_alloc, World.size_setCell, World.size_drew, World.size_drewN'] at hz2); (try (have kq := cellAt hb2 (w.heap.size) (by go_size); have k2_w_0_0 := kq 0; have k2_w_0_1 := kq 1; clear kq; have f2_w_0 := frozAt hb2 (w.heap.size) (by go_size); simp [go_sem, *] at k2_w_0_0 k2_w_0_1 f2_w_0)); (try have l2_w_0 : w.heap.size < w2.heap.size := by omega); (try (have kq := cellAt hb2 (w.heap.size + 1) (by go_size); have k2_w_1_0 := kq 0; have k2_w_1_1 := kq 1; have k2_w_1_2 := kq 2; have k2_w_1_3 := kq 3; clear kq; have f2_w_1 := frozAt hb2 (w.heap.size + 1) (by go_size); simp [go_sem, *] at k2_w_1_0 k2_w_1_1 k2_w_1_2 k2_w_1_3 f2_w_1)); (try have l2_w_1 : w.heap.size + 1 < w2.heap.size := by omega); (try clear k1_w_0_0 k1_w_0_1 f1_w_0); (try clear l1_w_0); (try clear k1_w_1_0 k1_w_1_1 k1_w_1_2 k1_w_1_3 f1_w_1); (try clear l1_w_1)) | (have _t := tok3; go_at_call 52; refine (makeGrid_any _ _ (by omega) (by omega)).mono ?_; rintro e w3 ⟨rfl, hb3⟩; clear tok3 _t; have hz3 := hb3.size; (try simp only [World.size_alloc, World.size_setCell, World.size_drew, World.size_drewN'] at hz3); (try (have kq := cellAt hb3 (w.heap.size) (by go_size); have k3_w_0_0 := kq 0; have k3_w_0_1 := kq 1; clear kq; have f3_w_0 := frozAt hb3 (w.heap.size) (by go_size); simp [go_sem, *] at k3_w_0_0 k3_w_0_1 f3_w_0)); (try have l3_w_0 : w.heap.size < w3.heap.size := by omega); (try (have kq := cellAt hb3 (w.heap.size + 1) (by go_size); have k3_w_1_0 := kq 0; have k3_w_1_1 := kq 1; have k3_w_1_2 := kq 2; have k3_w_1_3 := kq 3; clear kq; have f3_w_1 := frozAt hb3 (w.heap.size + 1) (by go_size); simp [go_sem, *] at k3_w_1_0 k3_w_1_1 k3_w_1_2 k3_w_1_3 f3_w_1)); (try have l3_w_1 : w.heap.size + 1 < w3.heap.size := by omega); (try (have kq := cellAt hb3 (w2.heap.size) (by go_size); have k3_w2_0_0 := kq 0; have k3_w2_0_1 := kq 1; clear kq; have f3_w2_0 := frozAt hb3 (w2.heap.size) (by go_size); simp [go_sem, *] at k3_w2_0_0 k3_w2_0_1 f3_w2_0)); (try have l3_w2_0 : w2.heap.size < w3.heap.size := by omega); (try clear k1_w_0_0 k1_w_0_1 f1_w_0); (try clear l1_w_0); (try clear k1_w_1_0 k1_w_1_1 k1_w_1_2 k1_w_1_3 f1_w_1); (try clear l1_w_1); (try clear k2_w_0_0 k2_w_0_1 f2_w_0); (try clear l2_w_0); (try clear k2_w_1_0 k2_w_1_1 k2_w_1_2 k2_w_1_3 f2_w_1); (try clear l2_w_1)))
    rw [HN.out]
    refine bodyPost_ret (v := .tuple #[.agg #[.int .i64 0, .int .i64 0, .int .i64 0, .int .i64 0], .bool false]) (by simp [results, Try.results27, go_sem, *]) rfl ⟨rfl, ?_⟩
    repeat' first | (with_reducible first | apply zRf | assumption | apply zDn | apply zDr | apply zAl | apply zSt | refine zVi (by assumption) ?_ ?_) | go_size
  · by_cases h : validB a b = true
    · have hb := span_bd h
      have HN := Lib.hid (ivV_yes h)
      have tok1 : True := trivial
      have tok2 : True := trivial
      have tok3 : True := trivial
      go_enter Try.func27, Try.ntmps27
      go_wp2_with (first | (have _t := tok1; go_at_call 51; refine (valid_any _ _ _).mono ?_; rintro e w1 ⟨rfl, hb1⟩; clear tok1 _t; have hz1 := hb1.size; (try simp only [World.size_alloc, World.size_setCell, World.size_drew, World.size_drewN'] at hz1); (try (have kq := cellAt hb1 (w.heap.size) (by go_size); have k1_w_0_0 := kq 0; have k1_w_0_1 := kq 1; clear kq; have f1_w_0 := frozAt hb1 (w.heap.size) (by go_size); simp [go_sem, *] at k1_w_0_0 k1_w_0_1 f1_w_0)); (try have l1_w_0 : w.heap.size < w1.heap.size := by omega); (try (have kq := cellAt hb1 (w.heap.size + 1) (by go_size); have k1_w_1_0 := kq 0; have k1_w_1_1 := kq 1; have k1_w_1_2 := kq 2; have k1_w_1_3 := kq 3; clear kq; have f1_w_1 := frozAt hb1 (w.heap.size + 1) (by go_size); simp [go_sem, *] at k1_w_1_0 k1_w_1_1 k1_w_1_2 k1_w_1_3 f1_w_1)); (try have l1_w_1 : w.heap.size + 1 < w1.heap.size := by omega)) | (have _t := tok2; go_at_call 52; refine (makeGrid_any _ _ (by omega) (by omega)).mono ?_; rintro e w2 ⟨rfl, hb2⟩; clear tok2 _t; have hz2 := hb2.size; (try simp only [World.size_alloc, World.size_setCell, World.size_drew, World.size_drewN'] at hz2); (try (have kq := cellAt hb2 (w.heap.size) (by go_size); have k2_w_0_0 := kq 0; have k2_w_0_1 := kq 1; clear kq; have f2_w_0 := frozAt hb2 (w.heap.size) (by go_size); simp [go_sem, *] at k2_w_0_0 k2_w_0_1 f2_w_0)); (try have l2_w_0 : w.heap.size < w2.heap.size := by omega); (try (have kq := cellAt hb2 (w.heap.size + 1) (by go_size); have k2_w_1_0 := kq 0; have k2_w_1_1 := kq 1; have k2_w_1_2 := kq 2; have k2_w_1_3 := kq 3; clear kq; have f2_w_1 := frozAt hb2 (w.heap.size + 1) (by go_size); simp [go_sem, *] at k2_w_1_0 k2_w_1_1 k2_w_1_2 k2_w_1_3 f2_w_1)); (try have l2_w_1 : w.heap.size + 1 < w2.heap.size := by omega); (try clear k1_w_0_0 k1_w_0_1 f1_w_0); (try clear l1_w_0); (try clear k1_w_1_0 k1_w_1_1 k1_w_1_2 k1_w_1_3 f1_w_1); (try clear l1_w_1)) | (have _t := tok3; go_at_call 52; refine (makeGrid_any _ _ (by omega) (by omega)).mono ?_; rintro e w3 ⟨rfl, hb3⟩; clear tok3 _t; have hz3 := hb3.size; (try simp only [World.size_alloc, World.size_setCell, World.size_drew, World.size_drewN'] at hz3); (try (have kq := cellAt hb3 (w.heap.size) (by go_size); have k3_w_0_0 := kq 0; have k3_w_0_1 := kq 1; clear kq; have f3_w_0 := frozAt hb3 (w.heap.size) (by go_size); simp [go_sem, *] at k3_w_0_0 k3_w_0_1 f3_w_0)); (try have l3_w_0 : w.heap.size < w3.heap.size := by omega); (try (have kq := cellAt hb3 (w.heap.size + 1) (by go_size); have k3_w_1_0 := kq 0; have k3_w_1_1 := kq 1; have k3_w_1_2 := kq 2; have k3_w_1_3 := kq 3; clear kq; have f3_w_1 := frozAt hb3 (w.heap.size + 1) (by go_size); simp [go_sem, *] at k3_w_1_0 k3_w_1_1 k3_w_1_2 k3_w_1_3 f3_w_1)); (try have l3_w_1 : w.heap.size + 1 < w3.heap.size := by omega); (try (have kq := cellAt hb3 (w2.heap.size) (by go_size); have k3_w2_0_0 := kq 0; have k3_w2_0_1 := kq 1; clear kq; have f3_w2_0 := frozAt hb3 (w2.heap.size) (by go_size); simp [go_sem, *] at k3_w2_0_0 k3_w2_0_1 f3_w2_0)); (try have l3_w2_0 : w2.heap.size < w3.heap.size := by omega); (try clear k1_w_0_0 k1_w_0_1 f1_w_0); (try clear l1_w_0); (try clear k1_w_1_0 k1_w_1_1 k1_w_1_2 k1_w_1_3 f1_w_1); (try clear l1_w_1); (try clear k2_w_0_0 k2_w_0_1 f2_w_0); (try clear l2_w_0); (try clear k2_w_1_0 k2_w_1_1 k2_w_1_2 k2_w_1_3 f2_w_1); (try clear l2_w_1)))
      rw [HN.out]
      refine bodyPost_ret (v := .tuple #[.agg #[.int .i64 (mkN a 4096), .int .i64 (mkD a 4096), .int .i64 (mkN b 4096), .int .i64 (mkD b 4096)], .bool true]) (by simp [results, Try.results27, go_sem, *]) rfl ⟨rfl, ?_⟩
      repeat' first | (with_reducible first | apply zRf | assumption | apply zDn | apply zDr | apply zAl | apply zSt | refine zVi (by assumption) ?_ ?_) | go_size
    · simp only [Bool.not_eq_true] at h
      have HN := Lib.hid (ivV_no (ok := true) (a := a) (b := b) (by simp [h]))
      have tok1 : True := trivial
      have tok2 : True := trivial
      have tok3 : True := trivial
      go_enter Try.func27, Try.ntmps27
      go_wp2_with (first | (have _t := tok1; go_at_call 51; refine (valid_any _ _ _).mono ?_; rintro e w1 ⟨rfl, hb1⟩; clear tok1 _t; have hz1 := hb1.size; (try simp only [World.size_alloc, World.size_setCell, World.size_drew, World.size_drewN'] at hz1); (try (have kq := cellAt hb1 (w.heap.size) (by go_size); have k1_w_0_0 := kq 0; have k1_w_0_1 := kq 1; clear kq; have f1_w_0 := frozAt hb1 (w.heap.size) (by go_size); simp [go_sem, *] at k1_w_0_0 k1_w_0_1 f1_w_0)); (try have l1_w_0 : w.heap.size < w1.heap.size := by omega); (try (have kq := cellAt hb1 (w.heap.size + 1) (by go_size); have k1_w_1_0 := kq 0; have k1_w_1_1 := kq 1; have k1_w_1_2 := kq 2; have k1_w_1_3 := kq 3; clear kq; have f1_w_1 := frozAt hb1 (w.heap.size + 1) (by go_size); simp [go_sem, *] at k1_w_1_0 k1_w_1_1 k1_w_1_2 k1_w_1_3 f1_w_1)); (try have l1_w_1 : w.heap.size + 1 < w1.heap.size := by omega)) | (have _t := tok2; go_at_call 52; refine (makeGrid_any _ _ (by omega) (by omega)).mono ?_; rintro e w2 ⟨rfl, hb2⟩; clear tok2 _t; have hz2 := hb2.size; (try simp only [World.size_alloc, World.size_setCell, World.size_drew, World.size_drewN'] at hz2); (try (have kq := cellAt hb2 (w.heap.size) (by go_size); have k2_w_0_0 := kq 0; have k2_w_0_1 := kq 1; clear kq; have f2_w_0 := frozAt hb2 (w.heap.size) (by go_size); simp [go_sem, *] at k2_w_0_0 k2_w_0_1 f2_w_0)); (try have l2_w_0 : w.heap.size < w2.heap.size := by omega); (try (have kq := cellAt hb2 (w.heap.size + 1) (by go_size); have k2_w_1_0 := kq 0; have k2_w_1_1 := kq 1; have k2_w_1_2 := kq 2; have k2_w_1_3 := kq 3; clear kq; have f2_w_1 := frozAt hb2 (w.heap.size + 1) (by go_size); simp [go_sem, *] at k2_w_1_0 k2_w_1_1 k2_w_1_2 k2_w_1_3 f2_w_1)); (try have l2_w_1 : w.heap.size + 1 < w2.heap.size := by omega); (try clear k1_w_0_0 k1_w_0_1 f1_w_0); (try clear l1_w_0); (try clear k1_w_1_0 k1_w_1_1 k1_w_1_2 k1_w_1_3 f1_w_1); (try clear l1_w_1)) | (have _t := tok3; go_at_call 52; refine (makeGrid_any _ _ (by omega) (by omega)).mono ?_; rintro e w3 ⟨rfl, hb3⟩; clear tok3 _t; have hz3 := hb3.size; (try simp only [World.size_alloc, World.size_setCell, World.size_drew, World.size_drewN'] at hz3); (try (have kq := cellAt hb3 (w.heap.size) (by go_size); have k3_w_0_0 := kq 0; have k3_w_0_1 := kq 1; clear kq; have f3_w_0 := frozAt hb3 (w.heap.size) (by go_size); simp [go_sem, *] at k3_w_0_0 k3_w_0_1 f3_w_0)); (try have l3_w_0 : w.heap.size < w3.heap.size := by omega); (try (have kq := cellAt hb3 (w.heap.size + 1) (by go_size); have k3_w_1_0 := kq 0; have k3_w_1_1 := kq 1; have k3_w_1_2 := kq 2; have k3_w_1_3 := kq 3; clear kq; have f3_w_1 := frozAt hb3 (w.heap.size + 1) (by go_size); simp [go_sem, *] at k3_w_1_0 k3_w_1_1 k3_w_1_2 k3_w_1_3 f3_w_1)); (try have l3_w_1 : w.heap.size + 1 < w3.heap.size := by omega); (try (have kq := cellAt hb3 (w2.heap.size) (by go_size); have k3_w2_0_0 := kq 0; have k3_w2_0_1 := kq 1; clear kq; have f3_w2_0 := frozAt hb3 (w2.heap.size) (by go_size); simp [go_sem, *] at k3_w2_0_0 k3_w2_0_1 f3_w2_0)); (try have l3_w2_0 : w2.heap.size < w3.heap.size := by omega); (try clear k1_w_0_0 k1_w_0_1 f1_w_0); (try clear l1_w_0); (try clear k1_w_1_0 k1_w_1_1 k1_w_1_2 k1_w_1_3 f1_w_1); (try clear l1_w_1); (try clear k2_w_0_0 k2_w_0_1 f2_w_0); (try clear l2_w_0); (try clear k2_w_1_0 k2_w_1_1 k2_w_1_2 k2_w_1_3 f2_w_1); (try clear l2_w_1)))
      rw [HN.out]
      refine bodyPost_ret (v := .tuple #[.agg #[.int .i64 0, .int .i64 0, .int .i64 0, .int .i64 0], .bool false]) (by simp [results, Try.results27, go_sem, *]) rfl ⟨rfl, ?_⟩
      repeat' first | (with_reducible first | apply zRf | assumption | apply zDn | apply zDr | apply zAl | apply zSt | refine zVi (by assumption) ?_ ?_) | go_size
def two (g h : Bool) (a b c d : Int) : Value := if (g && h) = true then .tuple #[.agg #[.int .i64 a, .int .i64 b], .agg #[.int .i64 c, .int .i64 d], .bool true] else .tuple #[.agg #[.int .i64 0, .int .i64 0], .agg #[.int .i64 0, .int .i64 0], .bool false]
theorem twoSpans_any (n1 d1 n2 d2 n3 d3 n4 d4 : Int) (w : World) : Calls Try.prog 25 #[.agg #[.int .i64 n1, .int .i64 d1, .int .i64 n2, .int .i64 d2], .agg #[.int .i64 n3, .int .i64 d3, .int .i64 n4, .int .i64 d4]] w fun e w' =>
    e = .returned (two (goodB n1 d1 n2 d2) (goodB n3 d3 n4 d4) (plN n1 d1) (plN n2 d2) (plN n3 d3) (plN n4 d4)) ∧ Below w.heap.size w w' := by
  by_cases h1 : goodB n1 d1 n2 d2 = true
  · by_cases h2 : goodB n3 d3 n4 d4 = true
    · have HN := Lib.hid (show two (goodB n1 d1 n2 d2) (goodB n3 d3 n4 d4) (plN n1 d1) (plN n2 d2) (plN n3 d3) (plN n4 d4) = .tuple #[.agg #[.int .i64 (spLo n1 d1 n2 d2), .int .i64 (spHi n1 d1 n2 d2)], .agg #[.int .i64 (spLo n3 d3 n4 d4), .int .i64 (spHi n3 d3 n4 d4)], .bool true] by
        rw [spLo_good h1, spHi_good h1, spLo_good h2, spHi_good h2]; simp [two, h1, h2])
      rw [HN.out]; clear HN
      have tok1 : True := trivial
      have tok2 : True := trivial
      go_enter Try.func25, Try.ntmps25
      go_wp2_with (first | (have _t := tok1; go_at_call 41; refine (spanOf_any _ _ _ _ _).mono ?_; rintro e w1 ⟨rfl, hb1⟩; clear tok1 _t; have hz1 := hb1.size; (try simp only [World.size_alloc, World.size_setCell, World.size_drew, World.size_drewN'] at hz1); (try (have kq := cellAt hb1 (w.heap.size) (by go_size); have k1_w_0_0 := kq 0; have k1_w_0_1 := kq 1; have k1_w_0_2 := kq 2; have k1_w_0_3 := kq 3; clear kq; have f1_w_0 := frozAt hb1 (w.heap.size) (by go_size); simp [go_sem, *] at k1_w_0_0 k1_w_0_1 k1_w_0_2 k1_w_0_3 f1_w_0)); (try have l1_w_0 : w.heap.size < w1.heap.size := by omega); (try (have kq := cellAt hb1 (w.heap.size + 1) (by go_size); have k1_w_1_0 := kq 0; have k1_w_1_1 := kq 1; have k1_w_1_2 := kq 2; have k1_w_1_3 := kq 3; clear kq; have f1_w_1 := frozAt hb1 (w.heap.size + 1) (by go_size); simp [go_sem, *] at k1_w_1_0 k1_w_1_1 k1_w_1_2 k1_w_1_3 f1_w_1)); (try have l1_w_1 : w.heap.size + 1 < w1.heap.size := by omega); (try (have kq := cellAt hb1 (w.heap.size + 1 + 1) (by go_size); have k1_w_2_0 := kq 0; have k1_w_2_1 := kq 1; clear kq; have f1_w_2 := frozAt hb1 (w.heap.size + 1 + 1) (by go_size); simp [go_sem, *] at k1_w_2_0 k1_w_2_1 f1_w_2)); (try have l1_w_2 : w.heap.size + 1 + 1 < w1.heap.size := by omega); (try (have kq := cellAt hb1 (w.heap.size + 1 + 1 + 1) (by go_size); have k1_w_3_0 := kq 0; have k1_w_3_1 := kq 1; clear kq; have f1_w_3 := frozAt hb1 (w.heap.size + 1 + 1 + 1) (by go_size); simp [go_sem, *] at k1_w_3_0 k1_w_3_1 f1_w_3)); (try have l1_w_3 : w.heap.size + 1 + 1 + 1 < w1.heap.size := by omega)) | (have _t := tok2; go_at_call 41; refine (spanOf_any _ _ _ _ _).mono ?_; rintro e w2 ⟨rfl, hb2⟩; clear tok2 _t; have hz2 := hb2.size; (try simp only [World.size_alloc, World.size_setCell, World.size_drew, World.size_drewN'] at hz2); (try (have kq := cellAt hb2 (w.heap.size) (by go_size); have k2_w_0_0 := kq 0; have k2_w_0_1 := kq 1; have k2_w_0_2 := kq 2; have k2_w_0_3 := kq 3; clear kq; have f2_w_0 := frozAt hb2 (w.heap.size) (by go_size); simp [go_sem, *] at k2_w_0_0 k2_w_0_1 k2_w_0_2 k2_w_0_3 f2_w_0)); (try have l2_w_0 : w.heap.size < w2.heap.size := by omega); (try (have kq := cellAt hb2 (w.heap.size + 1) (by go_size); have k2_w_1_0 := kq 0; have k2_w_1_1 := kq 1; have k2_w_1_2 := kq 2; have k2_w_1_3 := kq 3; clear kq; have f2_w_1 := frozAt hb2 (w.heap.size + 1) (by go_size); simp [go_sem, *] at k2_w_1_0 k2_w_1_1 k2_w_1_2 k2_w_1_3 f2_w_1)); (try have l2_w_1 : w.heap.size + 1 < w2.heap.size := by omega); (try (have kq := cellAt hb2 (w.heap.size + 1 + 1) (by go_size); have k2_w_2_0 := kq 0; have k2_w_2_1 := kq 1; clear kq; have f2_w_2 := frozAt hb2 (w.heap.size + 1 + 1) (by go_size); simp [go_sem, *] at k2_w_2_0 k2_w_2_1 f2_w_2)); (try have l2_w_2 : w.heap.size + 1 + 1 < w2.heap.size := by omega); (try (have kq := cellAt hb2 (w.heap.size + 1 + 1 + 1) (by go_size); have k2_w_3_0 := kq 0; have k2_w_3_1 := kq 1; clear kq; have f2_w_3 := frozAt hb2 (w.heap.size + 1 + 1 + 1) (by go_size); simp [go_sem, *] at k2_w_3_0 k2_w_3_1 f2_w_3)); (try have l2_w_3 : w.heap.size + 1 + 1 + 1 < w2.heap.size := by omega); (try (have kq := cellAt hb2 (w1.heap.size) (by go_size); have k2_w1_0_0 := kq 0; have k2_w1_0_1 := kq 1; clear kq; have f2_w1_0 := frozAt hb2 (w1.heap.size) (by go_size); simp [go_sem, *] at k2_w1_0_0 k2_w1_0_1 f2_w1_0)); (try have l2_w1_0 : w1.heap.size < w2.heap.size := by omega); (try clear k1_w_0_0 k1_w_0_1 k1_w_0_2 k1_w_0_3 f1_w_0); (try clear l1_w_0); (try clear k1_w_1_0 k1_w_1_1 k1_w_1_2 k1_w_1_3 f1_w_1); (try clear l1_w_1); (try clear k1_w_2_0 k1_w_2_1 f1_w_2); (try clear l1_w_2); (try clear k1_w_3_0 k1_w_3_1 f1_w_3); (try clear l1_w_3)))
      go_region
      go_wp2
      refine bodyPost_ret (v := .tuple #[.agg #[.int .i64 (spLo n1 d1 n2 d2), .int .i64 (spHi n1 d1 n2 d2)], .agg #[.int .i64 (spLo n3 d3 n4 d4), .int .i64 (spHi n3 d3 n4 d4)], .bool true]) (by simp [results, Try.results25, go_sem, *]) rfl ⟨rfl, ?_⟩
      repeat' first | (with_reducible first | apply zRf | assumption | apply zDn | apply zDr | apply zAl | apply zSt | refine zVi (by assumption) ?_ ?_) | go_size
    · simp only [Bool.not_eq_true] at h2
      have HN := Lib.hid (show two (goodB n1 d1 n2 d2) (goodB n3 d3 n4 d4) (plN n1 d1) (plN n2 d2) (plN n3 d3) (plN n4 d4) = .tuple #[.agg #[.int .i64 0, .int .i64 0], .agg #[.int .i64 0, .int .i64 0], .bool false] by simp [two, h2])
      rw [HN.out]; clear HN
      have tok1 : True := trivial
      have tok2 : True := trivial
      go_enter Try.func25, Try.ntmps25
      go_wp2_with (first | (have _t := tok1; go_at_call 41; refine (spanOf_any _ _ _ _ _).mono ?_; rintro e w1 ⟨rfl, hb1⟩; clear tok1 _t; have hz1 := hb1.size; (try simp only [World.size_alloc, World.size_setCell, World.size_drew, World.size_drewN'] at hz1); (try (have kq := cellAt hb1 (w.heap.size) (by go_size); have k1_w_0_0 := kq 0; have k1_w_0_1 := kq 1; have k1_w_0_2 := kq 2; have k1_w_0_3 := kq 3; clear kq; have f1_w_0 := frozAt hb1 (w.heap.size) (by go_size); simp [go_sem, *] at k1_w_0_0 k1_w_0_1 k1_w_0_2 k1_w_0_3 f1_w_0)); (try have l1_w_0 : w.heap.size < w1.heap.size := by omega); (try (have kq := cellAt hb1 (w.heap.size + 1) (by go_size); have k1_w_1_0 := kq 0; have k1_w_1_1 := kq 1; have k1_w_1_2 := kq 2; have k1_w_1_3 := kq 3; clear kq; have f1_w_1 := frozAt hb1 (w.heap.size + 1) (by go_size); simp [go_sem, *] at k1_w_1_0 k1_w_1_1 k1_w_1_2 k1_w_1_3 f1_w_1)); (try have l1_w_1 : w.heap.size + 1 < w1.heap.size := by omega); (try (have kq := cellAt hb1 (w.heap.size + 1 + 1) (by go_size); have k1_w_2_0 := kq 0; have k1_w_2_1 := kq 1; clear kq; have f1_w_2 := frozAt hb1 (w.heap.size + 1 + 1) (by go_size); simp [go_sem, *] at k1_w_2_0 k1_w_2_1 f1_w_2)); (try have l1_w_2 : w.heap.size + 1 + 1 < w1.heap.size := by omega); (try (have kq := cellAt hb1 (w.heap.size + 1 + 1 + 1) (by go_size); have k1_w_3_0 := kq 0; have k1_w_3_1 := kq 1; clear kq; have f1_w_3 := frozAt hb1 (w.heap.size + 1 + 1 + 1) (by go_size); simp [go_sem, *] at k1_w_3_0 k1_w_3_1 f1_w_3)); (try have l1_w_3 : w.heap.size + 1 + 1 + 1 < w1.heap.size := by omega)) | (have _t := tok2; go_at_call 41; refine (spanOf_any _ _ _ _ _).mono ?_; rintro e w2 ⟨rfl, hb2⟩; clear tok2 _t; have hz2 := hb2.size; (try simp only [World.size_alloc, World.size_setCell, World.size_drew, World.size_drewN'] at hz2); (try (have kq := cellAt hb2 (w.heap.size) (by go_size); have k2_w_0_0 := kq 0; have k2_w_0_1 := kq 1; have k2_w_0_2 := kq 2; have k2_w_0_3 := kq 3; clear kq; have f2_w_0 := frozAt hb2 (w.heap.size) (by go_size); simp [go_sem, *] at k2_w_0_0 k2_w_0_1 k2_w_0_2 k2_w_0_3 f2_w_0)); (try have l2_w_0 : w.heap.size < w2.heap.size := by omega); (try (have kq := cellAt hb2 (w.heap.size + 1) (by go_size); have k2_w_1_0 := kq 0; have k2_w_1_1 := kq 1; have k2_w_1_2 := kq 2; have k2_w_1_3 := kq 3; clear kq; have f2_w_1 := frozAt hb2 (w.heap.size + 1) (by go_size); simp [go_sem, *] at k2_w_1_0 k2_w_1_1 k2_w_1_2 k2_w_1_3 f2_w_1)); (try have l2_w_1 : w.heap.size + 1 < w2.heap.size := by omega); (try (have kq := cellAt hb2 (w.heap.size + 1 + 1) (by go_size); have k2_w_2_0 := kq 0; have k2_w_2_1 := kq 1; clear kq; have f2_w_2 := frozAt hb2 (w.heap.size + 1 + 1) (by go_size); simp [go_sem, *] at k2_w_2_0 k2_w_2_1 f2_w_2)); (try have l2_w_2 : w.heap.size + 1 + 1 < w2.heap.size := by omega); (try (have kq := cellAt hb2 (w.heap.size + 1 + 1 + 1) (by go_size); have k2_w_3_0 := kq 0; have k2_w_3_1 := kq 1; clear kq; have f2_w_3 := frozAt hb2 (w.heap.size + 1 + 1 + 1) (by go_size); simp [go_sem, *] at k2_w_3_0 k2_w_3_1 f2_w_3)); (try have l2_w_3 : w.heap.size + 1 + 1 + 1 < w2.heap.size := by omega); (try (have kq := cellAt hb2 (w1.heap.size) (by go_size); have k2_w1_0_0 := kq 0; have k2_w1_0_1 := kq 1; clear kq; have f2_w1_0 := frozAt hb2 (w1.heap.size) (by go_size); simp [go_sem, *] at k2_w1_0_0 k2_w1_0_1 f2_w1_0)); (try have l2_w1_0 : w1.heap.size < w2.heap.size := by omega); (try clear k1_w_0_0 k1_w_0_1 k1_w_0_2 k1_w_0_3 f1_w_0); (try clear l1_w_0); (try clear k1_w_1_0 k1_w_1_1 k1_w_1_2 k1_w_1_3 f1_w_1); (try clear l1_w_1); (try clear k1_w_2_0 k1_w_2_1 f1_w_2); (try clear l1_w_2); (try clear k1_w_3_0 k1_w_3_1 f1_w_3); (try clear l1_w_3)))
      refine bodyPost_ret (v := .tuple #[.agg #[.int .i64 0, .int .i64 0], .agg #[.int .i64 0, .int .i64 0], .bool false]) (by simp [results, Try.results25, go_sem, *]) rfl ⟨rfl, ?_⟩
      repeat' first | (with_reducible first | apply zRf | assumption | apply zDn | apply zDr | apply zAl | apply zSt | refine zVi (by assumption) ?_ ?_) | go_size
  · simp only [Bool.not_eq_true] at h1
    have HN := Lib.hid (show two (goodB n1 d1 n2 d2) (goodB n3 d3 n4 d4) (plN n1 d1) (plN n2 d2) (plN n3 d3) (plN n4 d4) = .tuple #[.agg #[.int .i64 0, .int .i64 0], .agg #[.int .i64 0, .int .i64 0], .bool false] by simp [two, h1])
    rw [HN.out]; clear HN
    have tok1 : True := trivial
    have tok2 : True := trivial
    go_enter Try.func25, Try.ntmps25
    go_wp2_with (first | (have _t := tok1; go_at_call 41; refine (spanOf_any _ _ _ _ _).mono ?_; rintro e w1 ⟨rfl, hb1⟩; clear tok1 _t; have hz1 := hb1.size; (try simp only [World.size_alloc, World.size_setCell, World.size_drew, World.size_drewN'] at hz1); (try (have kq := cellAt hb1 (w.heap.size) (by go_size); have k1_w_0_0 := kq 0; have k1_w_0_1 := kq 1; have k1_w_0_2 := kq 2; have k1_w_0_3 := kq 3; clear kq; have f1_w_0 := frozAt hb1 (w.heap.size) (by go_size); simp [go_sem, *] at k1_w_0_0 k1_w_0_1 k1_w_0_2 k1_w_0_3 f1_w_0)); (try have l1_w_0 : w.heap.size < w1.heap.size := by omega); (try (have kq := cellAt hb1 (w.heap.size + 1) (by go_size); have k1_w_1_0 := kq 0; have k1_w_1_1 := kq 1; have k1_w_1_2 := kq 2; have k1_w_1_3 := kq 3; clear kq; have f1_w_1 := frozAt hb1 (w.heap.size + 1) (by go_size); simp [go_sem, *] at k1_w_1_0 k1_w_1_1 k1_w_1_2 k1_w_1_3 f1_w_1)); (try have l1_w_1 : w.heap.size + 1 < w1.heap.size := by omega); (try (have kq := cellAt hb1 (w.heap.size + 1 + 1) (by go_size); have k1_w_2_0 := kq 0; have k1_w_2_1 := kq 1; clear kq; have f1_w_2 := frozAt hb1 (w.heap.size + 1 + 1) (by go_size); simp [go_sem, *] at k1_w_2_0 k1_w_2_1 f1_w_2)); (try have l1_w_2 : w.heap.size + 1 + 1 < w1.heap.size := by omega); (try (have kq := cellAt hb1 (w.heap.size + 1 + 1 + 1) (by go_size); have k1_w_3_0 := kq 0; have k1_w_3_1 := kq 1; clear kq; have f1_w_3 := frozAt hb1 (w.heap.size + 1 + 1 + 1) (by go_size); simp [go_sem, *] at k1_w_3_0 k1_w_3_1 f1_w_3)); (try have l1_w_3 : w.heap.size + 1 + 1 + 1 < w1.heap.size := by omega)) | (have _t := tok2; go_at_call 41; refine (spanOf_any _ _ _ _ _).mono ?_; rintro e w2 ⟨rfl, hb2⟩; clear tok2 _t; have hz2 := hb2.size; (try simp only [World.size_alloc, World.size_setCell, World.size_drew, World.size_drewN'] at hz2); (try (have kq := cellAt hb2 (w.heap.size) (by go_size); have k2_w_0_0 := kq 0; have k2_w_0_1 := kq 1; have k2_w_0_2 := kq 2; have k2_w_0_3 := kq 3; clear kq; have f2_w_0 := frozAt hb2 (w.heap.size) (by go_size); simp [go_sem, *] at k2_w_0_0 k2_w_0_1 k2_w_0_2 k2_w_0_3 f2_w_0)); (try have l2_w_0 : w.heap.size < w2.heap.size := by omega); (try (have kq := cellAt hb2 (w.heap.size + 1) (by go_size); have k2_w_1_0 := kq 0; have k2_w_1_1 := kq 1; have k2_w_1_2 := kq 2; have k2_w_1_3 := kq 3; clear kq; have f2_w_1 := frozAt hb2 (w.heap.size + 1) (by go_size); simp [go_sem, *] at k2_w_1_0 k2_w_1_1 k2_w_1_2 k2_w_1_3 f2_w_1)); (try have l2_w_1 : w.heap.size + 1 < w2.heap.size := by omega); (try (have kq := cellAt hb2 (w.heap.size + 1 + 1) (by go_size); have k2_w_2_0 := kq 0; have k2_w_2_1 := kq 1; clear kq; have f2_w_2 := frozAt hb2 (w.heap.size + 1 + 1) (by go_size); simp [go_sem, *] at k2_w_2_0 k2_w_2_1 f2_w_2)); (try have l2_w_2 : w.heap.size + 1 + 1 < w2.heap.size := by omega); (try (have kq := cellAt hb2 (w.heap.size + 1 + 1 + 1) (by go_size); have k2_w_3_0 := kq 0; have k2_w_3_1 := kq 1; clear kq; have f2_w_3 := frozAt hb2 (w.heap.size + 1 + 1 + 1) (by go_size); simp [go_sem, *] at k2_w_3_0 k2_w_3_1 f2_w_3)); (try have l2_w_3 : w.heap.size + 1 + 1 + 1 < w2.heap.size := by omega); (try (have kq := cellAt hb2 (w1.heap.size) (by go_size); have k2_w1_0_0 := kq 0; have k2_w1_0_1 := kq 1; clear kq; have f2_w1_0 := frozAt hb2 (w1.heap.size) (by go_size); simp [go_sem, *] at k2_w1_0_0 k2_w1_0_1 f2_w1_0)); (try have l2_w1_0 : w1.heap.size < w2.heap.size := by omega); (try clear k1_w_0_0 k1_w_0_1 k1_w_0_2 k1_w_0_3 f1_w_0); (try clear l1_w_0); (try clear k1_w_1_0 k1_w_1_1 k1_w_1_2 k1_w_1_3 f1_w_1); (try clear l1_w_1); (try clear k1_w_2_0 k1_w_2_1 f1_w_2); (try clear l1_w_2); (try clear k1_w_3_0 k1_w_3_1 f1_w_3); (try clear l1_w_3)))
    refine bodyPost_ret (v := .tuple #[.agg #[.int .i64 0, .int .i64 0], .agg #[.int .i64 0, .int .i64 0], .bool false]) (by simp [results, Try.results25, go_sem, *]) rfl ⟨rfl, ?_⟩
    repeat' first | (with_reducible first | apply zRf | assumption | apply zDn | apply zDr | apply zAl | apply zSt | refine zVi (by assumption) ?_ ?_) | go_size

theorem twoSpans_yes {n1 d1 n2 d2 n3 d3 n4 d4 : Int} (w : World) (h1 : goodB n1 d1 n2 d2 = true) (h2 : goodB n3 d3 n4 d4 = true) :
    Calls Try.prog 25 #[.agg #[.int .i64 n1, .int .i64 d1, .int .i64 n2, .int .i64 d2], .agg #[.int .i64 n3, .int .i64 d3, .int .i64 n4, .int .i64 d4]] w fun e w' =>
    e = .returned (.tuple #[.agg #[.int .i64 (plN n1 d1), .int .i64 (plN n2 d2)], .agg #[.int .i64 (plN n3 d3), .int .i64 (plN n4 d4)], .bool true]) ∧ Below w.heap.size w w' := by
  have := twoSpans_any n1 d1 n2 d2 n3 d3 n4 d4 w
  rwa [two, if_pos (by simp [h1, h2])] at this
theorem twoSpans_no {n1 d1 n2 d2 n3 d3 n4 d4 : Int} (w : World) (h : (goodB n1 d1 n2 d2 && goodB n3 d3 n4 d4) = false) :
    Calls Try.prog 25 #[.agg #[.int .i64 n1, .int .i64 d1, .int .i64 n2, .int .i64 d2], .agg #[.int .i64 n3, .int .i64 d3, .int .i64 n4, .int .i64 d4]] w fun e w' =>
    e = .returned (.tuple #[.agg #[.int .i64 0, .int .i64 0], .agg #[.int .i64 0, .int .i64 0], .bool false]) ∧ Below w.heap.size w w' := by
  have := twoSpans_any n1 d1 n2 d2 n3 d3 n4 d4 w
  rwa [two, if_neg (by simp [h])] at this
theorem interval_lit (a b : Int) (ok : Bool) (w : World) : Calls Try.prog 27 #[.agg #[.int .i64 a, .int .i64 b], .bool ok] w fun e w' =>
    e = .returned (.tuple #[.agg #[.int .i64 (ivN1 ok a b), .int .i64 (ivD1 ok a b), .int .i64 (ivN2 ok a b), .int .i64 (ivD2 ok a b)], .bool (ok && validB a b)]) ∧ Below w.heap.size w w' :=
  interval_any a b ok w
end Go.Proofs.Ythifeabcobgbmaa
