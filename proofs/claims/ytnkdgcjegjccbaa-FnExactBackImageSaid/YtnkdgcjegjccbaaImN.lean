/- Images of points of two-curves: the walk of the law. -/
import Derived.Test.YtnkdgcjegjccbaaImR2
import Derived.Test.YtnkdgcjegjccbaaImJ
import Derived.Test.YtnkdgcjegjccbaaToL
import Derived.Test.YtnkdgcjegjccbaaDrawn3
namespace Go.Proofs.Ytnkdgcjegjccbaa
open Go.RowKit
set_option linter.unusedVariables false
set_option maxHeartbeats 8000000
set_option maxRecDepth 20000
set_option linter.unusedSimpArgs false
theorem FnExactBackImage_any (a0_0 a0_1 a1_0 a1_1 a2_0 a2_1 : Int) (w : World) : Calls Try.prog 6 #[.agg #[.int .i64 a0_0, .int .i64 a0_1], .agg #[.int .i64 a1_0, .int .i64 a1_1], .agg #[.int .i64 a2_0, .int .i64 a2_1]] w fun e w' => e = .returned (.bool true) ∧ Below w.heap.size w w' := by
  have CS := fun W : World => Lib.hid (sBackImage_any a0_0 a0_1 a1_0 a1_1 a2_0 a2_1 W)
  have CI := fun W : World => Lib.hid (BackImage_any a0_0 a0_1 a1_0 a1_1 a2_0 a2_1 W)
  have tok1 : True := trivial
  have tok2 : True := trivial
  have tok3 : True := trivial
  have tok4 : True := trivial
  go_enter Try.func6, Try.ntmps6
  go_wp2_with fail
  refine wp_drawn_fill2 (n := 11) 7 21 8 22 30 30 #[.int .i64 0, .int .i64 0] #[.int .i64 0, .int .i64 0] (by kernel_rfl) (by kernel_rfl) (by kernel_rfl) ⟨_, rfl, rfl, rfl, fun _ _ => by simp [go_sem]⟩ ⟨_, rfl, rfl, rfl, fun _ _ => by simp [go_sem]⟩ ⟨_, rfl, rfl, rfl, rfl⟩ ⟨_, rfl, rfl, rfl, rfl⟩ (by kernel_rfl) (by kernel_rfl) (by kernel_rfl) (by kernel_rfl) (by kernel_rfl) (by kernel_rfl) ?_
  apply Exists.intro
  refine ⟨?_, ?_⟩
  · intro W hW
    try (have kx_w_0_0 := fun x => xcell hW (w.heap.size) (by go_size) x 0; simp [go_sem, *] at kx_w_0_0)
    try (have kx_w_0_1 := fun x => xcell hW (w.heap.size) (by go_size) x 1; simp [go_sem, *] at kx_w_0_1)
    try (have kx_w_1_0 := fun x => xcell hW (w.heap.size + 1) (by go_size) x 0; simp [go_sem, *] at kx_w_1_0)
    try (have kx_w_1_1 := fun x => xcell hW (w.heap.size + 1) (by go_size) x 1; simp [go_sem, *] at kx_w_1_1)
    try (have kx_w_2_0 := fun x => xcell hW (w.heap.size + 1 + 1) (by go_size) x 0; simp [go_sem, *] at kx_w_2_0)
    try (have kx_w_2_1 := fun x => xcell hW (w.heap.size + 1 + 1) (by go_size) x 1; simp [go_sem, *] at kx_w_2_1)
    simp only [List.take_succ_cons, List.take_zero]
    repeat (go_big_quiet_step ((first | (go_at_call 18; exact draw_of _ (toTwoCurve_any _ _ _)) | (go_at_call 15; exact draw_of _ (toFraction_any _ _ _)) | (go_at_call 23; exact draw_of _ ((CS _).out)))))
    exact wpQuiet_nil rfl
  refine ⟨_, _, ⟨rfl, rfl, by simp [Value.oneCell']⟩, ⟨rfl, rfl, by simp [Value.oneCell']⟩, ?_⟩
  intro g1 gg1 w1 hb1 hg1 hgg1 hne1 hk1 hkk1
  try simp only [World.size_alloc, World.size_setCell, World.size_drew, World.size_drewN'] at hg1 hgg1
  try have lg1_w_0 : w.heap.size < g1 := by omega
  try have lgg1_w_0 : w.heap.size < gg1 := by omega
  try have lg1_w_1 : w.heap.size + 1 < g1 := by omega
  try have lgg1_w_1 : w.heap.size + 1 < gg1 := by omega
  try have lg1_w_2 : w.heap.size + 1 + 1 < g1 := by omega
  try have lgg1_w_2 : w.heap.size + 1 + 1 < gg1 := by omega
  simp only [List.drop_succ_cons, List.drop_zero, Act.put, List.setIfInBounds_toArray, List.set_cons_succ, List.set_cons_zero]
  have hz1 := hb1.size
  (try simp only [World.size_alloc, World.size_setCell, World.size_drew, World.size_drewN'] at hz1)
  (try (have k1_w_0_0 := cellAt hb1 (w.heap.size) (by go_size) 0; simp [go_sem, *] at k1_w_0_0))
  (try (have k1_w_0_1 := cellAt hb1 (w.heap.size) (by go_size) 1; simp [go_sem, *] at k1_w_0_1))
  (try (have f1_w_0 := frozAt hb1 (w.heap.size) (by go_size); simp [go_sem, *] at f1_w_0))
  (try have l1_w_0 : w.heap.size < w1.heap.size := by omega)
  (try (have k1_w_1_0 := cellAt hb1 (w.heap.size + 1) (by go_size) 0; simp [go_sem, *] at k1_w_1_0))
  (try (have k1_w_1_1 := cellAt hb1 (w.heap.size + 1) (by go_size) 1; simp [go_sem, *] at k1_w_1_1))
  (try (have f1_w_1 := frozAt hb1 (w.heap.size + 1) (by go_size); simp [go_sem, *] at f1_w_1))
  (try have l1_w_1 : w.heap.size + 1 < w1.heap.size := by omega)
  (try (have k1_w_2_0 := cellAt hb1 (w.heap.size + 1 + 1) (by go_size) 0; simp [go_sem, *] at k1_w_2_0))
  (try (have k1_w_2_1 := cellAt hb1 (w.heap.size + 1 + 1) (by go_size) 1; simp [go_sem, *] at k1_w_2_1))
  (try (have f1_w_2 := frozAt hb1 (w.heap.size + 1 + 1) (by go_size); simp [go_sem, *] at f1_w_2))
  (try have l1_w_2 : w.heap.size + 1 + 1 < w1.heap.size := by omega)
  have kg1 := blk_cell hk1
  have fg1 := blk_frozen hk1
  have lg1 := blk_lt hk1
  have kgg1 := blk_cell hkk1
  have fgg1 := blk_frozen hkk1
  have lgg1 := blk_lt hkk1
  go_wp2_with fail
  refine wp_drawn_fill2 (n := 11) 10 32 11 33 30 30 #[.int .i64 0, .int .i64 0] #[.int .i64 0, .int .i64 0] (by kernel_rfl) (by kernel_rfl) (by kernel_rfl) ⟨_, rfl, rfl, rfl, fun _ _ => by simp [go_sem]⟩ ⟨_, rfl, rfl, rfl, fun _ _ => by simp [go_sem]⟩ ⟨_, rfl, rfl, rfl, rfl⟩ ⟨_, rfl, rfl, rfl, rfl⟩ (by kernel_rfl) (by kernel_rfl) (by kernel_rfl) (by kernel_rfl) (by kernel_rfl) (by kernel_rfl) ?_
  apply Exists.intro
  refine ⟨?_, ?_⟩
  · intro W hW
    try (have kx_w_0_0 := fun x => xcell hW (w.heap.size) (by go_size) x 0; simp [go_sem, *] at kx_w_0_0)
    try (have kx_w_0_1 := fun x => xcell hW (w.heap.size) (by go_size) x 1; simp [go_sem, *] at kx_w_0_1)
    try (have kx_w_1_0 := fun x => xcell hW (w.heap.size + 1) (by go_size) x 0; simp [go_sem, *] at kx_w_1_0)
    try (have kx_w_1_1 := fun x => xcell hW (w.heap.size + 1) (by go_size) x 1; simp [go_sem, *] at kx_w_1_1)
    try (have kx_w_2_0 := fun x => xcell hW (w.heap.size + 1 + 1) (by go_size) x 0; simp [go_sem, *] at kx_w_2_0)
    try (have kx_w_2_1 := fun x => xcell hW (w.heap.size + 1 + 1) (by go_size) x 1; simp [go_sem, *] at kx_w_2_1)
    try (have kx_g1_0 := fun x => xcell hW (g1) (by go_size) x 0; simp [go_sem, *] at kx_g1_0)
    try (have kx_g1_1 := fun x => xcell hW (g1) (by go_size) x 1; simp [go_sem, *] at kx_g1_1)
    try (have kx_gg1_0 := fun x => xcell hW (gg1) (by go_size) x 0; simp [go_sem, *] at kx_gg1_0)
    try (have kx_gg1_1 := fun x => xcell hW (gg1) (by go_size) x 1; simp [go_sem, *] at kx_gg1_1)
    simp only [List.take_succ_cons, List.take_zero]
    repeat (go_big_quiet_step ((first | (go_at_call 18; exact draw_of _ (toTwoCurve_any _ _ _)) | (go_at_call 15; exact draw_of _ (toFraction_any _ _ _)) | (go_at_call 24; exact draw_of _ ((CI _).out)))))
    exact wpQuiet_nil rfl
  refine ⟨_, _, ⟨rfl, rfl, by simp [Value.oneCell']⟩, ⟨rfl, rfl, by simp [Value.oneCell']⟩, ?_⟩
  intro g2 gg2 w2 hb2 hg2 hgg2 hne2 hk2 hkk2
  try simp only [World.size_alloc, World.size_setCell, World.size_drew, World.size_drewN'] at hg2 hgg2
  try have lg2_w_0 : w.heap.size < g2 := by omega
  try have lgg2_w_0 : w.heap.size < gg2 := by omega
  try have lg2_w_1 : w.heap.size + 1 < g2 := by omega
  try have lgg2_w_1 : w.heap.size + 1 < gg2 := by omega
  try have lg2_w_2 : w.heap.size + 1 + 1 < g2 := by omega
  try have lgg2_w_2 : w.heap.size + 1 + 1 < gg2 := by omega
  try have lg2_g1 : g1 < g2 := by omega
  try have lgg2_g1 : g1 < gg2 := by omega
  try have lg2_gg1 : gg1 < g2 := by omega
  try have lgg2_gg1 : gg1 < gg2 := by omega
  simp only [List.drop_succ_cons, List.drop_zero, Act.put, List.setIfInBounds_toArray, List.set_cons_succ, List.set_cons_zero]
  have hz2 := hb2.size
  (try simp only [World.size_alloc, World.size_setCell, World.size_drew, World.size_drewN'] at hz2)
  (try (have k2_w_0_0 := cellAt hb2 (w.heap.size) (by go_size) 0; simp [go_sem, *] at k2_w_0_0))
  (try (have k2_w_0_1 := cellAt hb2 (w.heap.size) (by go_size) 1; simp [go_sem, *] at k2_w_0_1))
  (try (have f2_w_0 := frozAt hb2 (w.heap.size) (by go_size); simp [go_sem, *] at f2_w_0))
  (try have l2_w_0 : w.heap.size < w2.heap.size := by omega)
  (try (have k2_w_1_0 := cellAt hb2 (w.heap.size + 1) (by go_size) 0; simp [go_sem, *] at k2_w_1_0))
  (try (have k2_w_1_1 := cellAt hb2 (w.heap.size + 1) (by go_size) 1; simp [go_sem, *] at k2_w_1_1))
  (try (have f2_w_1 := frozAt hb2 (w.heap.size + 1) (by go_size); simp [go_sem, *] at f2_w_1))
  (try have l2_w_1 : w.heap.size + 1 < w2.heap.size := by omega)
  (try (have k2_w_2_0 := cellAt hb2 (w.heap.size + 1 + 1) (by go_size) 0; simp [go_sem, *] at k2_w_2_0))
  (try (have k2_w_2_1 := cellAt hb2 (w.heap.size + 1 + 1) (by go_size) 1; simp [go_sem, *] at k2_w_2_1))
  (try (have f2_w_2 := frozAt hb2 (w.heap.size + 1 + 1) (by go_size); simp [go_sem, *] at f2_w_2))
  (try have l2_w_2 : w.heap.size + 1 + 1 < w2.heap.size := by omega)
  (try (have k2_g1_0 := cellAt hb2 (g1) (by go_size) 0; simp [go_sem, *] at k2_g1_0))
  (try (have k2_g1_1 := cellAt hb2 (g1) (by go_size) 1; simp [go_sem, *] at k2_g1_1))
  (try (have f2_g1 := frozAt hb2 (g1) (by go_size); simp [go_sem, *] at f2_g1))
  (try have l2_g1 : g1 < w2.heap.size := by omega)
  (try (have k2_gg1_0 := cellAt hb2 (gg1) (by go_size) 0; simp [go_sem, *] at k2_gg1_0))
  (try (have k2_gg1_1 := cellAt hb2 (gg1) (by go_size) 1; simp [go_sem, *] at k2_gg1_1))
  (try (have f2_gg1 := frozAt hb2 (gg1) (by go_size); simp [go_sem, *] at f2_gg1))
  (try have l2_gg1 : gg1 < w2.heap.size := by omega)
  (try clear k1_w_0_0)
  (try clear k1_w_0_1)
  (try clear f1_w_0)
  (try clear l1_w_0)
  (try clear k1_w_1_0)
  (try clear k1_w_1_1)
  (try clear f1_w_1)
  (try clear l1_w_1)
  (try clear k1_w_2_0)
  (try clear k1_w_2_1)
  (try clear f1_w_2)
  (try clear l1_w_2)
  have kg2 := blk_cell hk2
  have fg2 := blk_frozen hk2
  have lg2 := blk_lt hk2
  have kgg2 := blk_cell hkk2
  have fgg2 := blk_frozen hkk2
  have lgg2 := blk_lt hkk2
  go_wp2_with (first | (have _t := tok3; go_at_call 22; refine (eqFraction_same _ _ _).mono ?_; rintro e w3 ⟨rfl, hb3⟩; clear tok3 _t; have hz3 := hb3.size; (try simp only [World.size_alloc, World.size_setCell, World.size_drew, World.size_drewN'] at hz3); (try (have k3_w_0_0 := cellAt hb3 (w.heap.size) (by go_size) 0; simp [go_sem, *] at k3_w_0_0)); (try (have k3_w_0_1 := cellAt hb3 (w.heap.size) (by go_size) 1; simp [go_sem, *] at k3_w_0_1)); (try (have f3_w_0 := frozAt hb3 (w.heap.size) (by go_size); simp [go_sem, *] at f3_w_0)); (try have l3_w_0 : w.heap.size < w3.heap.size := by omega); (try (have k3_w_1_0 := cellAt hb3 (w.heap.size + 1) (by go_size) 0; simp [go_sem, *] at k3_w_1_0)); (try (have k3_w_1_1 := cellAt hb3 (w.heap.size + 1) (by go_size) 1; simp [go_sem, *] at k3_w_1_1)); (try (have f3_w_1 := frozAt hb3 (w.heap.size + 1) (by go_size); simp [go_sem, *] at f3_w_1)); (try have l3_w_1 : w.heap.size + 1 < w3.heap.size := by omega); (try (have k3_w_2_0 := cellAt hb3 (w.heap.size + 1 + 1) (by go_size) 0; simp [go_sem, *] at k3_w_2_0)); (try (have k3_w_2_1 := cellAt hb3 (w.heap.size + 1 + 1) (by go_size) 1; simp [go_sem, *] at k3_w_2_1)); (try (have f3_w_2 := frozAt hb3 (w.heap.size + 1 + 1) (by go_size); simp [go_sem, *] at f3_w_2)); (try have l3_w_2 : w.heap.size + 1 + 1 < w3.heap.size := by omega); (try (have k3_g1_0 := cellAt hb3 (g1) (by go_size) 0; simp [go_sem, *] at k3_g1_0)); (try (have k3_g1_1 := cellAt hb3 (g1) (by go_size) 1; simp [go_sem, *] at k3_g1_1)); (try (have f3_g1 := frozAt hb3 (g1) (by go_size); simp [go_sem, *] at f3_g1)); (try have l3_g1 : g1 < w3.heap.size := by omega); (try (have k3_gg1_0 := cellAt hb3 (gg1) (by go_size) 0; simp [go_sem, *] at k3_gg1_0)); (try (have k3_gg1_1 := cellAt hb3 (gg1) (by go_size) 1; simp [go_sem, *] at k3_gg1_1)); (try (have f3_gg1 := frozAt hb3 (gg1) (by go_size); simp [go_sem, *] at f3_gg1)); (try have l3_gg1 : gg1 < w3.heap.size := by omega); (try (have k3_g2_0 := cellAt hb3 (g2) (by go_size) 0; simp [go_sem, *] at k3_g2_0)); (try (have k3_g2_1 := cellAt hb3 (g2) (by go_size) 1; simp [go_sem, *] at k3_g2_1)); (try (have f3_g2 := frozAt hb3 (g2) (by go_size); simp [go_sem, *] at f3_g2)); (try have l3_g2 : g2 < w3.heap.size := by omega); (try (have k3_gg2_0 := cellAt hb3 (gg2) (by go_size) 0; simp [go_sem, *] at k3_gg2_0)); (try (have k3_gg2_1 := cellAt hb3 (gg2) (by go_size) 1; simp [go_sem, *] at k3_gg2_1)); (try (have f3_gg2 := frozAt hb3 (gg2) (by go_size); simp [go_sem, *] at f3_gg2)); (try have l3_gg2 : gg2 < w3.heap.size := by omega); (try clear k1_w_0_0); (try clear k1_w_0_1); (try clear f1_w_0); (try clear l1_w_0); (try clear k1_w_1_0); (try clear k1_w_1_1); (try clear f1_w_1); (try clear l1_w_1); (try clear k1_w_2_0); (try clear k1_w_2_1); (try clear f1_w_2); (try clear l1_w_2); (try clear k2_w_0_0); (try clear k2_w_0_1); (try clear f2_w_0); (try clear l2_w_0); (try clear k2_w_1_0); (try clear k2_w_1_1); (try clear f2_w_1); (try clear l2_w_1); (try clear k2_w_2_0); (try clear k2_w_2_1); (try clear f2_w_2); (try clear l2_w_2); (try clear k2_g1_0); (try clear k2_g1_1); (try clear f2_g1); (try clear l2_g1); (try clear k2_gg1_0); (try clear k2_gg1_1); (try clear f2_gg1); (try clear l2_gg1)) | (have _t := tok4; go_at_call 22; refine (eqFraction_same _ _ _).mono ?_; rintro e w4 ⟨rfl, hb4⟩; clear tok4 _t; have hz4 := hb4.size; (try simp only [World.size_alloc, World.size_setCell, World.size_drew, World.size_drewN'] at hz4); (try (have k4_w_0_0 := cellAt hb4 (w.heap.size) (by go_size) 0; simp [go_sem, *] at k4_w_0_0)); (try (have k4_w_0_1 := cellAt hb4 (w.heap.size) (by go_size) 1; simp [go_sem, *] at k4_w_0_1)); (try (have f4_w_0 := frozAt hb4 (w.heap.size) (by go_size); simp [go_sem, *] at f4_w_0)); (try have l4_w_0 : w.heap.size < w4.heap.size := by omega); (try (have k4_w_1_0 := cellAt hb4 (w.heap.size + 1) (by go_size) 0; simp [go_sem, *] at k4_w_1_0)); (try (have k4_w_1_1 := cellAt hb4 (w.heap.size + 1) (by go_size) 1; simp [go_sem, *] at k4_w_1_1)); (try (have f4_w_1 := frozAt hb4 (w.heap.size + 1) (by go_size); simp [go_sem, *] at f4_w_1)); (try have l4_w_1 : w.heap.size + 1 < w4.heap.size := by omega); (try (have k4_w_2_0 := cellAt hb4 (w.heap.size + 1 + 1) (by go_size) 0; simp [go_sem, *] at k4_w_2_0)); (try (have k4_w_2_1 := cellAt hb4 (w.heap.size + 1 + 1) (by go_size) 1; simp [go_sem, *] at k4_w_2_1)); (try (have f4_w_2 := frozAt hb4 (w.heap.size + 1 + 1) (by go_size); simp [go_sem, *] at f4_w_2)); (try have l4_w_2 : w.heap.size + 1 + 1 < w4.heap.size := by omega); (try (have k4_g1_0 := cellAt hb4 (g1) (by go_size) 0; simp [go_sem, *] at k4_g1_0)); (try (have k4_g1_1 := cellAt hb4 (g1) (by go_size) 1; simp [go_sem, *] at k4_g1_1)); (try (have f4_g1 := frozAt hb4 (g1) (by go_size); simp [go_sem, *] at f4_g1)); (try have l4_g1 : g1 < w4.heap.size := by omega); (try (have k4_gg1_0 := cellAt hb4 (gg1) (by go_size) 0; simp [go_sem, *] at k4_gg1_0)); (try (have k4_gg1_1 := cellAt hb4 (gg1) (by go_size) 1; simp [go_sem, *] at k4_gg1_1)); (try (have f4_gg1 := frozAt hb4 (gg1) (by go_size); simp [go_sem, *] at f4_gg1)); (try have l4_gg1 : gg1 < w4.heap.size := by omega); (try (have k4_g2_0 := cellAt hb4 (g2) (by go_size) 0; simp [go_sem, *] at k4_g2_0)); (try (have k4_g2_1 := cellAt hb4 (g2) (by go_size) 1; simp [go_sem, *] at k4_g2_1)); (try (have f4_g2 := frozAt hb4 (g2) (by go_size); simp [go_sem, *] at f4_g2)); (try have l4_g2 : g2 < w4.heap.size := by omega); (try (have k4_gg2_0 := cellAt hb4 (gg2) (by go_size) 0; simp [go_sem, *] at k4_gg2_0)); (try (have k4_gg2_1 := cellAt hb4 (gg2) (by go_size) 1; simp [go_sem, *] at k4_gg2_1)); (try (have f4_gg2 := frozAt hb4 (gg2) (by go_size); simp [go_sem, *] at f4_gg2)); (try have l4_gg2 : gg2 < w4.heap.size := by omega); (try clear k1_w_0_0); (try clear k1_w_0_1); (try clear f1_w_0); (try clear l1_w_0); (try clear k1_w_1_0); (try clear k1_w_1_1); (try clear f1_w_1); (try clear l1_w_1); (try clear k1_w_2_0); (try clear k1_w_2_1); (try clear f1_w_2); (try clear l1_w_2); (try clear k2_w_0_0); (try clear k2_w_0_1); (try clear f2_w_0); (try clear l2_w_0); (try clear k2_w_1_0); (try clear k2_w_1_1); (try clear f2_w_1); (try clear l2_w_1); (try clear k2_w_2_0); (try clear k2_w_2_1); (try clear f2_w_2); (try clear l2_w_2); (try clear k2_g1_0); (try clear k2_g1_1); (try clear f2_g1); (try clear l2_g1); (try clear k2_gg1_0); (try clear k2_gg1_1); (try clear f2_gg1); (try clear l2_gg1); (try clear k3_w_0_0); (try clear k3_w_0_1); (try clear f3_w_0); (try clear l3_w_0); (try clear k3_w_1_0); (try clear k3_w_1_1); (try clear f3_w_1); (try clear l3_w_1); (try clear k3_w_2_0); (try clear k3_w_2_1); (try clear f3_w_2); (try clear l3_w_2); (try clear k3_g1_0); (try clear k3_g1_1); (try clear f3_g1); (try clear l3_g1); (try clear k3_gg1_0); (try clear k3_gg1_1); (try clear f3_gg1); (try clear l3_gg1); (try clear k3_g2_0); (try clear k3_g2_1); (try clear f3_g2); (try clear l3_g2); (try clear k3_gg2_0); (try clear k3_gg2_1); (try clear f3_gg2); (try clear l3_gg2)))
  go_ret
  refine ⟨rfl, ?_⟩
  repeat' first | (with_reducible exact Below.refl _ _) | (with_reducible assumption) | (with_reducible refine below_drewN ?_ _) | (with_reducible refine Below.drew ?_) | (with_reducible refine Below.alloc ?_ ?_ _) | (with_reducible refine Below.setCell ?_ ?_ _) | (with_reducible refine below_via (by assumption) ?_ ?_) | go_size
end Go.Proofs.Ytnkdgcjegjccbaa
