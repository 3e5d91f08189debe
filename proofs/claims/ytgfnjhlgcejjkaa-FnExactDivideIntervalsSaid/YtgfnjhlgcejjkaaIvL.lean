/- The walks of the laws on intervals: the program returns what the reference returns. -/
import Derived.Test.YtgfnjhlgcejjkaaIv2
import Derived.Test.YtgfnjhlgcejjkaaIvS
namespace Go.Proofs.Ytgfnjhlgcejjkaa
open Go.RowKit
set_option linter.unusedVariables false
set_option maxHeartbeats 4000000
set_option linter.unusedSimpArgs false

theorem toFraction_any (n d : Int) (w : World) : Calls Try.prog 19 #[.agg #[.int .i64 n, .int .i64 d]] w fun e w' => e = .returned (.agg #[.int .i64 n, .int .i64 d]) ∧ Below w.heap.size w w' := by
  go_enter Try.func19, Try.ntmps19
  go_wp2
  refine bodyPost_ret (v := _) (by simp [results, Try.results19, go_sem, *]) rfl ⟨rfl, ?_⟩
  repeat' first | (with_reducible exact Below.refl _ _) | (with_reducible assumption) | (with_reducible refine below_drewN ?_ _) | (with_reducible refine Below.drew ?_) | (with_reducible refine Below.alloc ?_ ?_ _) | (with_reducible refine Below.setCell ?_ ?_ _) | (with_reducible refine below_via (by assumption) ?_ ?_) | go_size
theorem toInterval_any (n1 d1 n2 d2 : Int) (w : World) : Calls Try.prog 16 #[.agg #[.int .i64 n1, .int .i64 d1, .int .i64 n2, .int .i64 d2]] w fun e w' => e = .returned (.agg #[.int .i64 n1, .int .i64 d1, .int .i64 n2, .int .i64 d2]) ∧ Below w.heap.size w w' := by
  have tok1 : True := trivial
  have tok2 : True := trivial
  go_enter Try.func16, Try.ntmps16
  go_wp2_with (first | (have _t := tok1; go_at_call 19; refine (toFraction_any _ _ _).mono ?_; rintro e w1 ⟨rfl, hb1⟩; clear tok1 _t; have hz1 := hb1.size; (try simp only [World.size_alloc, World.size_setCell, World.size_drew, World.size_drewN'] at hz1); (try (have k1_w_0_0 := cellAt hb1 (w.heap.size) (by go_size) 0; simp [go_sem, *] at k1_w_0_0)); (try (have k1_w_0_1 := cellAt hb1 (w.heap.size) (by go_size) 1; simp [go_sem, *] at k1_w_0_1)); (try (have k1_w_0_2 := cellAt hb1 (w.heap.size) (by go_size) 2; simp [go_sem, *] at k1_w_0_2)); (try (have k1_w_0_3 := cellAt hb1 (w.heap.size) (by go_size) 3; simp [go_sem, *] at k1_w_0_3)); (try (have f1_w_0 := frozAt hb1 (w.heap.size) (by go_size); simp [go_sem, *] at f1_w_0)); (try have l1_w_0 : w.heap.size < w1.heap.size := by omega); (try (have k1_w_1_0 := cellAt hb1 (w.heap.size + 1) (by go_size) 0; simp [go_sem, *] at k1_w_1_0)); (try (have k1_w_1_1 := cellAt hb1 (w.heap.size + 1) (by go_size) 1; simp [go_sem, *] at k1_w_1_1)); (try (have k1_w_1_2 := cellAt hb1 (w.heap.size + 1) (by go_size) 2; simp [go_sem, *] at k1_w_1_2)); (try (have k1_w_1_3 := cellAt hb1 (w.heap.size + 1) (by go_size) 3; simp [go_sem, *] at k1_w_1_3)); (try (have f1_w_1 := frozAt hb1 (w.heap.size + 1) (by go_size); simp [go_sem, *] at f1_w_1)); (try have l1_w_1 : w.heap.size + 1 < w1.heap.size := by omega); (try (have k1_w_2_0 := cellAt hb1 (w.heap.size + 1 + 1) (by go_size) 0; simp [go_sem, *] at k1_w_2_0)); (try (have k1_w_2_1 := cellAt hb1 (w.heap.size + 1 + 1) (by go_size) 1; simp [go_sem, *] at k1_w_2_1)); (try (have k1_w_2_2 := cellAt hb1 (w.heap.size + 1 + 1) (by go_size) 2; simp [go_sem, *] at k1_w_2_2)); (try (have k1_w_2_3 := cellAt hb1 (w.heap.size + 1 + 1) (by go_size) 3; simp [go_sem, *] at k1_w_2_3)); (try (have f1_w_2 := frozAt hb1 (w.heap.size + 1 + 1) (by go_size); simp [go_sem, *] at f1_w_2)); (try have l1_w_2 : w.heap.size + 1 + 1 < w1.heap.size := by omega)) | (have _t := tok2; go_at_call 19; refine (toFraction_any _ _ _).mono ?_; rintro e w2 ⟨rfl, hb2⟩; clear tok2 _t; have hz2 := hb2.size; (try simp only [World.size_alloc, World.size_setCell, World.size_drew, World.size_drewN'] at hz2); (try (have k2_w_0_0 := cellAt hb2 (w.heap.size) (by go_size) 0; simp [go_sem, *] at k2_w_0_0)); (try (have k2_w_0_1 := cellAt hb2 (w.heap.size) (by go_size) 1; simp [go_sem, *] at k2_w_0_1)); (try (have k2_w_0_2 := cellAt hb2 (w.heap.size) (by go_size) 2; simp [go_sem, *] at k2_w_0_2)); (try (have k2_w_0_3 := cellAt hb2 (w.heap.size) (by go_size) 3; simp [go_sem, *] at k2_w_0_3)); (try (have f2_w_0 := frozAt hb2 (w.heap.size) (by go_size); simp [go_sem, *] at f2_w_0)); (try have l2_w_0 : w.heap.size < w2.heap.size := by omega); (try (have k2_w_1_0 := cellAt hb2 (w.heap.size + 1) (by go_size) 0; simp [go_sem, *] at k2_w_1_0)); (try (have k2_w_1_1 := cellAt hb2 (w.heap.size + 1) (by go_size) 1; simp [go_sem, *] at k2_w_1_1)); (try (have k2_w_1_2 := cellAt hb2 (w.heap.size + 1) (by go_size) 2; simp [go_sem, *] at k2_w_1_2)); (try (have k2_w_1_3 := cellAt hb2 (w.heap.size + 1) (by go_size) 3; simp [go_sem, *] at k2_w_1_3)); (try (have f2_w_1 := frozAt hb2 (w.heap.size + 1) (by go_size); simp [go_sem, *] at f2_w_1)); (try have l2_w_1 : w.heap.size + 1 < w2.heap.size := by omega); (try (have k2_w_2_0 := cellAt hb2 (w.heap.size + 1 + 1) (by go_size) 0; simp [go_sem, *] at k2_w_2_0)); (try (have k2_w_2_1 := cellAt hb2 (w.heap.size + 1 + 1) (by go_size) 1; simp [go_sem, *] at k2_w_2_1)); (try (have k2_w_2_2 := cellAt hb2 (w.heap.size + 1 + 1) (by go_size) 2; simp [go_sem, *] at k2_w_2_2)); (try (have k2_w_2_3 := cellAt hb2 (w.heap.size + 1 + 1) (by go_size) 3; simp [go_sem, *] at k2_w_2_3)); (try (have f2_w_2 := frozAt hb2 (w.heap.size + 1 + 1) (by go_size); simp [go_sem, *] at f2_w_2)); (try have l2_w_2 : w.heap.size + 1 + 1 < w2.heap.size := by omega); (try clear k1_w_0_0); (try clear k1_w_0_1); (try clear k1_w_0_2); (try clear k1_w_0_3); (try clear f1_w_0); (try clear l1_w_0); (try clear k1_w_1_0); (try clear k1_w_1_1); (try clear k1_w_1_2); (try clear k1_w_1_3); (try clear f1_w_1); (try clear l1_w_1); (try clear k1_w_2_0); (try clear k1_w_2_1); (try clear k1_w_2_2); (try clear k1_w_2_3); (try clear f1_w_2); (try clear l1_w_2)))
  refine bodyPost_ret (v := _) (by simp [results, Try.results16, go_sem, *]) rfl ⟨rfl, ?_⟩
  repeat' first | (with_reducible exact Below.refl _ _) | (with_reducible assumption) | (with_reducible refine below_drewN ?_ _) | (with_reducible refine Below.drew ?_) | (with_reducible refine Below.alloc ?_ ?_ _) | (with_reducible refine Below.setCell ?_ ?_ _) | (with_reducible refine below_via (by assumption) ?_ ?_) | go_size
theorem eqFraction_same (n d : Int) (w : World) : Calls Try.prog 25 #[.agg #[.int .i64 n, .int .i64 d], .agg #[.int .i64 n, .int .i64 d]] w fun e w' => e = .returned (.bool true) ∧ Below w.heap.size w w' := by
  have e1 : (n != n) = false := by simp
  have e2 : (d != d) = false := by simp
  go_enter Try.func25, Try.ntmps25
  go_wp2
  go_ret
  refine ⟨rfl, ?_⟩
  repeat' first | (with_reducible exact Below.refl _ _) | (with_reducible assumption) | (with_reducible refine below_drewN ?_ _) | (with_reducible refine Below.drew ?_) | (with_reducible refine Below.alloc ?_ ?_ _) | (with_reducible refine Below.setCell ?_ ?_ _) | (with_reducible refine below_via (by assumption) ?_ ?_) | go_size
theorem eqInterval_same (n1 d1 n2 d2 : Int) (w : World) : Calls Try.prog 28 #[.agg #[.int .i64 n1, .int .i64 d1, .int .i64 n2, .int .i64 d2], .agg #[.int .i64 n1, .int .i64 d1, .int .i64 n2, .int .i64 d2]] w fun e w' => e = .returned (.bool true) ∧ Below w.heap.size w w' := by
  have tok1 : True := trivial
  have tok2 : True := trivial
  go_enter Try.func28, Try.ntmps28
  go_wp2_with (first | (have _t := tok1; go_at_call 25; refine (eqFraction_same _ _ _).mono ?_; rintro e w1 ⟨rfl, hb1⟩; clear tok1 _t; have hz1 := hb1.size; (try simp only [World.size_alloc, World.size_setCell, World.size_drew, World.size_drewN'] at hz1); (try (have k1_w_0_0 := cellAt hb1 (w.heap.size) (by go_size) 0; simp [go_sem, *] at k1_w_0_0)); (try (have k1_w_0_1 := cellAt hb1 (w.heap.size) (by go_size) 1; simp [go_sem, *] at k1_w_0_1)); (try (have k1_w_0_2 := cellAt hb1 (w.heap.size) (by go_size) 2; simp [go_sem, *] at k1_w_0_2)); (try (have k1_w_0_3 := cellAt hb1 (w.heap.size) (by go_size) 3; simp [go_sem, *] at k1_w_0_3)); (try (have f1_w_0 := frozAt hb1 (w.heap.size) (by go_size); simp [go_sem, *] at f1_w_0)); (try have l1_w_0 : w.heap.size < w1.heap.size := by omega); (try (have k1_w_1_0 := cellAt hb1 (w.heap.size + 1) (by go_size) 0; simp [go_sem, *] at k1_w_1_0)); (try (have k1_w_1_1 := cellAt hb1 (w.heap.size + 1) (by go_size) 1; simp [go_sem, *] at k1_w_1_1)); (try (have k1_w_1_2 := cellAt hb1 (w.heap.size + 1) (by go_size) 2; simp [go_sem, *] at k1_w_1_2)); (try (have k1_w_1_3 := cellAt hb1 (w.heap.size + 1) (by go_size) 3; simp [go_sem, *] at k1_w_1_3)); (try (have f1_w_1 := frozAt hb1 (w.heap.size + 1) (by go_size); simp [go_sem, *] at f1_w_1)); (try have l1_w_1 : w.heap.size + 1 < w1.heap.size := by omega)) | (have _t := tok2; go_at_call 25; refine (eqFraction_same _ _ _).mono ?_; rintro e w2 ⟨rfl, hb2⟩; clear tok2 _t; have hz2 := hb2.size; (try simp only [World.size_alloc, World.size_setCell, World.size_drew, World.size_drewN'] at hz2); (try (have k2_w_0_0 := cellAt hb2 (w.heap.size) (by go_size) 0; simp [go_sem, *] at k2_w_0_0)); (try (have k2_w_0_1 := cellAt hb2 (w.heap.size) (by go_size) 1; simp [go_sem, *] at k2_w_0_1)); (try (have k2_w_0_2 := cellAt hb2 (w.heap.size) (by go_size) 2; simp [go_sem, *] at k2_w_0_2)); (try (have k2_w_0_3 := cellAt hb2 (w.heap.size) (by go_size) 3; simp [go_sem, *] at k2_w_0_3)); (try (have f2_w_0 := frozAt hb2 (w.heap.size) (by go_size); simp [go_sem, *] at f2_w_0)); (try have l2_w_0 : w.heap.size < w2.heap.size := by omega); (try (have k2_w_1_0 := cellAt hb2 (w.heap.size + 1) (by go_size) 0; simp [go_sem, *] at k2_w_1_0)); (try (have k2_w_1_1 := cellAt hb2 (w.heap.size + 1) (by go_size) 1; simp [go_sem, *] at k2_w_1_1)); (try (have k2_w_1_2 := cellAt hb2 (w.heap.size + 1) (by go_size) 2; simp [go_sem, *] at k2_w_1_2)); (try (have k2_w_1_3 := cellAt hb2 (w.heap.size + 1) (by go_size) 3; simp [go_sem, *] at k2_w_1_3)); (try (have f2_w_1 := frozAt hb2 (w.heap.size + 1) (by go_size); simp [go_sem, *] at f2_w_1)); (try have l2_w_1 : w.heap.size + 1 < w2.heap.size := by omega); (try clear k1_w_0_0); (try clear k1_w_0_1); (try clear k1_w_0_2); (try clear k1_w_0_3); (try clear f1_w_0); (try clear l1_w_0); (try clear k1_w_1_0); (try clear k1_w_1_1); (try clear k1_w_1_2); (try clear k1_w_1_3); (try clear f1_w_1); (try clear l1_w_1)))
  go_ret
  refine ⟨rfl, ?_⟩
  repeat' first | (with_reducible exact Below.refl _ _) | (with_reducible assumption) | (with_reducible refine below_drewN ?_ _) | (with_reducible refine Below.drew ?_) | (with_reducible refine Below.alloc ?_ ?_ _) | (with_reducible refine Below.setCell ?_ ?_ _) | (with_reducible refine below_via (by assumption) ?_ ?_) | go_size
theorem opV_lit (g : Bool) (a b : Int) : opV g a b = .tuple #[.agg #[.int .i64 (ivN1 g a b), .int .i64 (ivD1 g a b), .int .i64 (ivN2 g a b), .int .i64 (ivD2 g a b)], .bool (g && validB a b)] := by rw [opV_eq, ivV]
theorem FnExactAddIntervals_any (n1 d1 n2 d2 n3 d3 n4 d4 : Int) (w : World) : Calls Try.prog 8 #[.agg #[.int .i64 n1, .int .i64 d1, .int .i64 n2, .int .i64 d2], .agg #[.int .i64 n3, .int .i64 d3, .int .i64 n4, .int .i64 d4]] w fun e w' =>
    e = .returned (.bool true) ∧ Below w.heap.size w w' := by
  have CS := fun W : World => Lib.hid (sAddIntervals_any n1 d1 n2 d2 n3 d3 n4 d4 W)
  have CI := fun W : World => Lib.hid (AddIntervals_any n1 d1 n2 d2 n3 d3 n4 d4 W)
  rw [opV_lit] at CS CI
  have tok9 : True := trivial
  go_enter Try.func8, Try.ntmps8
  go_wp2_with fail
  refine wp_drawn_fill (n := 8) 5 15 29 #[.int .i64 0, .int .i64 0, .int .i64 0, .int .i64 0] (by kernel_rfl) (by kernel_rfl) (by kernel_rfl) ⟨_, rfl, rfl, rfl, fun _ _ => by simp [go_sem]⟩ ⟨_, rfl, rfl, rfl, rfl⟩ (by kernel_rfl) (by kernel_rfl) (by kernel_rfl) ?_
  apply Exists.intro
  refine ⟨?_, ?_⟩
  · intro W hW
    try (have kx_w_0_0 := fun x => xcell hW (w.heap.size) (by go_size) x 0; simp [go_sem, *] at kx_w_0_0)
    try (have kx_w_0_1 := fun x => xcell hW (w.heap.size) (by go_size) x 1; simp [go_sem, *] at kx_w_0_1)
    try (have kx_w_0_2 := fun x => xcell hW (w.heap.size) (by go_size) x 2; simp [go_sem, *] at kx_w_0_2)
    try (have kx_w_0_3 := fun x => xcell hW (w.heap.size) (by go_size) x 3; simp [go_sem, *] at kx_w_0_3)
    try (have kx_w_1_0 := fun x => xcell hW (w.heap.size + 1) (by go_size) x 0; simp [go_sem, *] at kx_w_1_0)
    try (have kx_w_1_1 := fun x => xcell hW (w.heap.size + 1) (by go_size) x 1; simp [go_sem, *] at kx_w_1_1)
    try (have kx_w_1_2 := fun x => xcell hW (w.heap.size + 1) (by go_size) x 2; simp [go_sem, *] at kx_w_1_2)
    try (have kx_w_1_3 := fun x => xcell hW (w.heap.size + 1) (by go_size) x 3; simp [go_sem, *] at kx_w_1_3)
    simp only [List.take_succ_cons, List.take_zero]
    repeat (go_big_quiet_step ((first | (go_at_call 16; exact draw_of _ (toInterval_any _ _ _ _ _)) | (go_at_call 29; exact draw_of _ ((CS _).out)) | (go_at_call 30; exact draw_of _ ((CI _).out)))))
    exact wpQuiet_nil rfl
  refine ⟨_, rfl, rfl, by simp [Value.oneCell'], ?_⟩
  intro g1 w1 hb1 hg1 hk1
  try simp only [World.size_alloc, World.size_setCell, World.size_drew, World.size_drewN'] at hg1
  try have lg1_w_0 : w.heap.size < g1 := by omega
  try have lg1_w_1 : w.heap.size + 1 < g1 := by omega
  simp only [List.drop_succ_cons, List.drop_zero, Act.put, List.setIfInBounds_toArray, List.set_cons_succ, List.set_cons_zero]
  have hz1 := hb1.size
  (try simp only [World.size_alloc, World.size_setCell, World.size_drew, World.size_drewN'] at hz1)
  (try (have k1_w_0_0 := cellAt hb1 (w.heap.size) (by go_size) 0; simp [go_sem, *] at k1_w_0_0))
  (try (have k1_w_0_1 := cellAt hb1 (w.heap.size) (by go_size) 1; simp [go_sem, *] at k1_w_0_1))
  (try (have k1_w_0_2 := cellAt hb1 (w.heap.size) (by go_size) 2; simp [go_sem, *] at k1_w_0_2))
  (try (have k1_w_0_3 := cellAt hb1 (w.heap.size) (by go_size) 3; simp [go_sem, *] at k1_w_0_3))
  (try (have f1_w_0 := frozAt hb1 (w.heap.size) (by go_size); simp [go_sem, *] at f1_w_0))
  (try have l1_w_0 : w.heap.size < w1.heap.size := by omega)
  (try (have k1_w_1_0 := cellAt hb1 (w.heap.size + 1) (by go_size) 0; simp [go_sem, *] at k1_w_1_0))
  (try (have k1_w_1_1 := cellAt hb1 (w.heap.size + 1) (by go_size) 1; simp [go_sem, *] at k1_w_1_1))
  (try (have k1_w_1_2 := cellAt hb1 (w.heap.size + 1) (by go_size) 2; simp [go_sem, *] at k1_w_1_2))
  (try (have k1_w_1_3 := cellAt hb1 (w.heap.size + 1) (by go_size) 3; simp [go_sem, *] at k1_w_1_3))
  (try (have f1_w_1 := frozAt hb1 (w.heap.size + 1) (by go_size); simp [go_sem, *] at f1_w_1))
  (try have l1_w_1 : w.heap.size + 1 < w1.heap.size := by omega)
  have kg1 := blk_cell hk1
  have fg1 := blk_frozen hk1
  have lg1 := blk_lt hk1
  go_wp2_with fail
  refine wp_drawn_fill (n := 8) 7 23 29 #[.int .i64 0, .int .i64 0, .int .i64 0, .int .i64 0] (by kernel_rfl) (by kernel_rfl) (by kernel_rfl) ⟨_, rfl, rfl, rfl, fun _ _ => by simp [go_sem]⟩ ⟨_, rfl, rfl, rfl, rfl⟩ (by kernel_rfl) (by kernel_rfl) (by kernel_rfl) ?_
  apply Exists.intro
  refine ⟨?_, ?_⟩
  · intro W hW
    try (have kx_w_0_0 := fun x => xcell hW (w.heap.size) (by go_size) x 0; simp [go_sem, *] at kx_w_0_0)
    try (have kx_w_0_1 := fun x => xcell hW (w.heap.size) (by go_size) x 1; simp [go_sem, *] at kx_w_0_1)
    try (have kx_w_0_2 := fun x => xcell hW (w.heap.size) (by go_size) x 2; simp [go_sem, *] at kx_w_0_2)
    try (have kx_w_0_3 := fun x => xcell hW (w.heap.size) (by go_size) x 3; simp [go_sem, *] at kx_w_0_3)
    try (have kx_w_1_0 := fun x => xcell hW (w.heap.size + 1) (by go_size) x 0; simp [go_sem, *] at kx_w_1_0)
    try (have kx_w_1_1 := fun x => xcell hW (w.heap.size + 1) (by go_size) x 1; simp [go_sem, *] at kx_w_1_1)
    try (have kx_w_1_2 := fun x => xcell hW (w.heap.size + 1) (by go_size) x 2; simp [go_sem, *] at kx_w_1_2)
    try (have kx_w_1_3 := fun x => xcell hW (w.heap.size + 1) (by go_size) x 3; simp [go_sem, *] at kx_w_1_3)
    try (have kx_g1_0 := fun x => xcell hW (g1) (by go_size) x 0; simp [go_sem, *] at kx_g1_0)
    try (have kx_g1_1 := fun x => xcell hW (g1) (by go_size) x 1; simp [go_sem, *] at kx_g1_1)
    try (have kx_g1_2 := fun x => xcell hW (g1) (by go_size) x 2; simp [go_sem, *] at kx_g1_2)
    try (have kx_g1_3 := fun x => xcell hW (g1) (by go_size) x 3; simp [go_sem, *] at kx_g1_3)
    simp only [List.take_succ_cons, List.take_zero]
    repeat (go_big_quiet_step ((first | (go_at_call 16; exact draw_of _ (toInterval_any _ _ _ _ _)) | (go_at_call 29; exact draw_of _ ((CS _).out)) | (go_at_call 30; exact draw_of _ ((CI _).out)))))
    exact wpQuiet_nil rfl
  refine ⟨_, rfl, rfl, by simp [Value.oneCell'], ?_⟩
  intro g2 w2 hb2 hg2 hk2
  try simp only [World.size_alloc, World.size_setCell, World.size_drew, World.size_drewN'] at hg2
  try have lg2_w_0 : w.heap.size < g2 := by omega
  try have lg2_w_1 : w.heap.size + 1 < g2 := by omega
  try have lg2_g1 : g1 < g2 := by omega
  simp only [List.drop_succ_cons, List.drop_zero, Act.put, List.setIfInBounds_toArray, List.set_cons_succ, List.set_cons_zero]
  have hz2 := hb2.size
  (try simp only [World.size_alloc, World.size_setCell, World.size_drew, World.size_drewN'] at hz2)
  (try (have k2_w_0_0 := cellAt hb2 (w.heap.size) (by go_size) 0; simp [go_sem, *] at k2_w_0_0))
  (try (have k2_w_0_1 := cellAt hb2 (w.heap.size) (by go_size) 1; simp [go_sem, *] at k2_w_0_1))
  (try (have k2_w_0_2 := cellAt hb2 (w.heap.size) (by go_size) 2; simp [go_sem, *] at k2_w_0_2))
  (try (have k2_w_0_3 := cellAt hb2 (w.heap.size) (by go_size) 3; simp [go_sem, *] at k2_w_0_3))
  (try (have f2_w_0 := frozAt hb2 (w.heap.size) (by go_size); simp [go_sem, *] at f2_w_0))
  (try have l2_w_0 : w.heap.size < w2.heap.size := by omega)
  (try (have k2_w_1_0 := cellAt hb2 (w.heap.size + 1) (by go_size) 0; simp [go_sem, *] at k2_w_1_0))
  (try (have k2_w_1_1 := cellAt hb2 (w.heap.size + 1) (by go_size) 1; simp [go_sem, *] at k2_w_1_1))
  (try (have k2_w_1_2 := cellAt hb2 (w.heap.size + 1) (by go_size) 2; simp [go_sem, *] at k2_w_1_2))
  (try (have k2_w_1_3 := cellAt hb2 (w.heap.size + 1) (by go_size) 3; simp [go_sem, *] at k2_w_1_3))
  (try (have f2_w_1 := frozAt hb2 (w.heap.size + 1) (by go_size); simp [go_sem, *] at f2_w_1))
  (try have l2_w_1 : w.heap.size + 1 < w2.heap.size := by omega)
  (try (have k2_g1_0 := cellAt hb2 (g1) (by go_size) 0; simp [go_sem, *] at k2_g1_0))
  (try (have k2_g1_1 := cellAt hb2 (g1) (by go_size) 1; simp [go_sem, *] at k2_g1_1))
  (try (have k2_g1_2 := cellAt hb2 (g1) (by go_size) 2; simp [go_sem, *] at k2_g1_2))
  (try (have k2_g1_3 := cellAt hb2 (g1) (by go_size) 3; simp [go_sem, *] at k2_g1_3))
  (try (have f2_g1 := frozAt hb2 (g1) (by go_size); simp [go_sem, *] at f2_g1))
  (try have l2_g1 : g1 < w2.heap.size := by omega)
  (try clear k1_w_0_0)
  (try clear k1_w_0_1)
  (try clear k1_w_0_2)
  (try clear k1_w_0_3)
  (try clear f1_w_0)
  (try clear l1_w_0)
  (try clear k1_w_1_0)
  (try clear k1_w_1_1)
  (try clear k1_w_1_2)
  (try clear k1_w_1_3)
  (try clear f1_w_1)
  (try clear l1_w_1)
  have kg2 := blk_cell hk2
  have fg2 := blk_frozen hk2
  have lg2 := blk_lt hk2
  go_wp2_with (first | (have _t := tok9; go_at_call 28; refine (eqInterval_same _ _ _ _ _).mono ?_; rintro e w9 ⟨rfl, hb9⟩; clear tok9 _t; have hz9 := hb9.size; (try simp only [World.size_alloc, World.size_setCell, World.size_drew, World.size_drewN'] at hz9); (try (have k9_w_0_0 := cellAt hb9 (w.heap.size) (by go_size) 0; simp [go_sem, *] at k9_w_0_0)); (try (have k9_w_0_1 := cellAt hb9 (w.heap.size) (by go_size) 1; simp [go_sem, *] at k9_w_0_1)); (try (have k9_w_0_2 := cellAt hb9 (w.heap.size) (by go_size) 2; simp [go_sem, *] at k9_w_0_2)); (try (have k9_w_0_3 := cellAt hb9 (w.heap.size) (by go_size) 3; simp [go_sem, *] at k9_w_0_3)); (try (have f9_w_0 := frozAt hb9 (w.heap.size) (by go_size); simp [go_sem, *] at f9_w_0)); (try have l9_w_0 : w.heap.size < w9.heap.size := by omega); (try (have k9_w_1_0 := cellAt hb9 (w.heap.size + 1) (by go_size) 0; simp [go_sem, *] at k9_w_1_0)); (try (have k9_w_1_1 := cellAt hb9 (w.heap.size + 1) (by go_size) 1; simp [go_sem, *] at k9_w_1_1)); (try (have k9_w_1_2 := cellAt hb9 (w.heap.size + 1) (by go_size) 2; simp [go_sem, *] at k9_w_1_2)); (try (have k9_w_1_3 := cellAt hb9 (w.heap.size + 1) (by go_size) 3; simp [go_sem, *] at k9_w_1_3)); (try (have f9_w_1 := frozAt hb9 (w.heap.size + 1) (by go_size); simp [go_sem, *] at f9_w_1)); (try have l9_w_1 : w.heap.size + 1 < w9.heap.size := by omega); (try clear k1_w_0_0); (try clear k1_w_0_1); (try clear k1_w_0_2); (try clear k1_w_0_3); (try clear f1_w_0); (try clear l1_w_0); (try clear k1_w_1_0); (try clear k1_w_1_1); (try clear k1_w_1_2); (try clear k1_w_1_3); (try clear f1_w_1); (try clear l1_w_1); (try clear k2_w_0_0); (try clear k2_w_0_1); (try clear k2_w_0_2); (try clear k2_w_0_3); (try clear f2_w_0); (try clear l2_w_0); (try clear k2_w_1_0); (try clear k2_w_1_1); (try clear k2_w_1_2); (try clear k2_w_1_3); (try clear f2_w_1); (try clear l2_w_1); (try clear k3_w_0_0); (try clear k3_w_0_1); (try clear k3_w_0_2); (try clear k3_w_0_3); (try clear f3_w_0); (try clear l3_w_0); (try clear k3_w_1_0); (try clear k3_w_1_1); (try clear k3_w_1_2); (try clear k3_w_1_3); (try clear f3_w_1); (try clear l3_w_1); (try clear k4_w_0_0); (try clear k4_w_0_1); (try clear k4_w_0_2); (try clear k4_w_0_3); (try clear f4_w_0); (try clear l4_w_0); (try clear k4_w_1_0); (try clear k4_w_1_1); (try clear k4_w_1_2); (try clear k4_w_1_3); (try clear f4_w_1); (try clear l4_w_1); (try clear k5_w_0_0); (try clear k5_w_0_1); (try clear k5_w_0_2); (try clear k5_w_0_3); (try clear f5_w_0); (try clear l5_w_0); (try clear k5_w_1_0); (try clear k5_w_1_1); (try clear k5_w_1_2); (try clear k5_w_1_3); (try clear f5_w_1); (try clear l5_w_1); (try clear k6_w_0_0); (try clear k6_w_0_1); (try clear k6_w_0_2); (try clear k6_w_0_3); (try clear f6_w_0); (try clear l6_w_0); (try clear k6_w_1_0); (try clear k6_w_1_1); (try clear k6_w_1_2); (try clear k6_w_1_3); (try clear f6_w_1); (try clear l6_w_1); (try clear k7_w_0_0); (try clear k7_w_0_1); (try clear k7_w_0_2); (try clear k7_w_0_3); (try clear f7_w_0); (try clear l7_w_0); (try clear k7_w_1_0); (try clear k7_w_1_1); (try clear k7_w_1_2); (try clear k7_w_1_3); (try clear f7_w_1); (try clear l7_w_1); (try clear k8_w_0_0); (try clear k8_w_0_1); (try clear k8_w_0_2); (try clear k8_w_0_3); (try clear f8_w_0); (try clear l8_w_0); (try clear k8_w_1_0); (try clear k8_w_1_1); (try clear k8_w_1_2); (try clear k8_w_1_3); (try clear f8_w_1); (try clear l8_w_1)))
  go_ret
  refine ⟨rfl, ?_⟩
  repeat' first | (with_reducible exact Below.refl _ _) | (with_reducible assumption) | (with_reducible refine below_drewN ?_ _) | (with_reducible refine Below.drew ?_) | (with_reducible refine Below.alloc ?_ ?_ _) | (with_reducible refine Below.setCell ?_ ?_ _) | (with_reducible refine below_via (by assumption) ?_ ?_) | go_size
end Go.Proofs.Ytgfnjhlgcejjkaa
