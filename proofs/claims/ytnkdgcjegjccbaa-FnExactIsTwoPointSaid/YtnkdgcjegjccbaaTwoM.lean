/- Points of two-curves: the walk of the law. -/
import Derived.Test.YtnkdgcjegjccbaaTwoL
namespace Go.Proofs.Ytnkdgcjegjccbaa
open Go.RowKit
set_option linter.unusedVariables false
set_option maxHeartbeats 8000000
set_option maxRecDepth 20000
set_option linter.unusedSimpArgs false
theorem FnExactIsTwoPoint_any (a0_0 a0_1 a1_0 a1_1 a2_0 a2_1 : Int) (w : World) : Calls Try.prog 4 #[.agg #[.int .i64 a0_0, .int .i64 a0_1], .agg #[.int .i64 a1_0, .int .i64 a1_1], .agg #[.int .i64 a2_0, .int .i64 a2_1]] w fun e w' => e = .returned (.bool true) ∧ Below w.heap.size w w' := by
  have CS := fun W : World => Lib.hid (sIsTwoPoint_any a0_0 a0_1 a1_0 a1_1 a2_0 a2_1 W)
  have CI := fun W : World => Lib.hid (IsTwoPoint_any a0_0 a0_1 a1_0 a1_1 a2_0 a2_1 W)
  have tok1 : True := trivial
  have tok2 : True := trivial
  go_enter Try.func4, Try.ntmps4
  go_wp2_with fail
  refine wp_drawn' (n := 11) (by kernel_rfl) (by kernel_rfl) (by kernel_rfl) ?_
  apply Exists.intro
  refine ⟨?_, ?_⟩
  · intro W hW
    try (have kx_w_0_0 := fun x => xcell hW (w.heap.size) (by go_size) x 0; simp [go_sem, *] at kx_w_0_0)
    try (have kx_w_0_1 := fun x => xcell hW (w.heap.size) (by go_size) x 1; simp [go_sem, *] at kx_w_0_1)
    try (have kx_w_1_0 := fun x => xcell hW (w.heap.size + 1) (by go_size) x 0; simp [go_sem, *] at kx_w_1_0)
    try (have kx_w_1_1 := fun x => xcell hW (w.heap.size + 1) (by go_size) x 1; simp [go_sem, *] at kx_w_1_1)
    try (have kx_w_2_0 := fun x => xcell hW (w.heap.size + 1 + 1) (by go_size) x 0; simp [go_sem, *] at kx_w_2_0)
    try (have kx_w_2_1 := fun x => xcell hW (w.heap.size + 1 + 1) (by go_size) x 1; simp [go_sem, *] at kx_w_2_1)
    simp only [List.take_succ_cons, List.take_zero]
    repeat (go_big_quiet_step ((first | (go_at_call 18; exact draw_of _ (toTwoCurve_any _ _ _)) | (go_at_call 15; exact draw_of _ (toFraction_any _ _ _)) | (go_at_call 17; exact draw_of _ ((CS _).out)))))
    exact wpQuiet_nil rfl
  intro w1 hb1
  simp only [List.drop_succ_cons, List.drop_zero, Act.put, List.setIfInBounds_toArray, List.set_cons_succ, List.set_cons_zero]
  have hz1 := hb1.size
  (try simp only [World.size_alloc, World.size_setCell, World.size_drew, World.size_drewN'] at hz1)
  (try (have k1_w_0_0 := cellAt hb1 (w.heap.size) (by go_size) 0; simp [go_sem, *] at k1_w_0_0))
  (try (have k1_w_0_1 := cellAt hb1 (w.heap.size) (by go_size) 1; simp [go_sem, *] at k1_w_0_1))
  (try (have f1_w_0 := frozAt hb1 (w.heap.size) (by go_size); simp [go_sem, *] at f1_w_0))
  (try have l1_w_0 : w.heap.size < w1.heap.size := by omega)
  (try (have k1_w_1_0 := cellAt hb1 (w.heap.size + 1) (by go_size) 0; simp [go_sem, *] at k1_w_1_0))
  (try (have k1_w_1_1 := cellAt hb1 (w.heap.size + 1) (by go_size) 1; simp [go_sem, *] at k1_w_1_1))
  (try (have f1_w_1 := frozAt hb1 (w.heap.size + 1) (by go_size); simp [go_sem, *] at f1_w_1))
  (try have l1_w_1 : w.heap.size + 1 < w1.heap.size := by omega)
  (try (have k1_w_2_0 := cellAt hb1 (w.heap.size + 1 + 1) (by go_size) 0; simp [go_sem, *] at k1_w_2_0))
  (try (have k1_w_2_1 := cellAt hb1 (w.heap.size + 1 + 1) (by go_size) 1; simp [go_sem, *] at k1_w_2_1))
  (try (have f1_w_2 := frozAt hb1 (w.heap.size + 1 + 1) (by go_size); simp [go_sem, *] at f1_w_2))
  (try have l1_w_2 : w.heap.size + 1 + 1 < w1.heap.size := by omega)
  go_wp2_with fail
  refine wp_drawn' (n := 11) (by kernel_rfl) (by kernel_rfl) (by kernel_rfl) ?_
  apply Exists.intro
  refine ⟨?_, ?_⟩
  · intro W hW
    try (have kx_w_0_0 := fun x => xcell hW (w.heap.size) (by go_size) x 0; simp [go_sem, *] at kx_w_0_0)
    try (have kx_w_0_1 := fun x => xcell hW (w.heap.size) (by go_size) x 1; simp [go_sem, *] at kx_w_0_1)
    try (have kx_w_1_0 := fun x => xcell hW (w.heap.size + 1) (by go_size) x 0; simp [go_sem, *] at kx_w_1_0)
    try (have kx_w_1_1 := fun x => xcell hW (w.heap.size + 1) (by go_size) x 1; simp [go_sem, *] at kx_w_1_1)
    try (have kx_w_2_0 := fun x => xcell hW (w.heap.size + 1 + 1) (by go_size) x 0; simp [go_sem, *] at kx_w_2_0)
    try (have kx_w_2_1 := fun x => xcell hW (w.heap.size + 1 + 1) (by go_size) x 1; simp [go_sem, *] at kx_w_2_1)
    simp only [List.take_succ_cons, List.take_zero]
    repeat (go_big_quiet_step ((first | (go_at_call 18; exact draw_of _ (toTwoCurve_any _ _ _)) | (go_at_call 15; exact draw_of _ (toFraction_any _ _ _)) | (go_at_call 19; exact draw_of _ ((CI _).out)))))
    exact wpQuiet_nil rfl
  intro w2 hb2
  simp only [List.drop_succ_cons, List.drop_zero, Act.put, List.setIfInBounds_toArray, List.set_cons_succ, List.set_cons_zero]
  have hz2 := hb2.size
  (try simp only [World.size_alloc, World.size_setCell, World.size_drew, World.size_drewN'] at hz2)
  (try (have k2_w_0_0 := cellAt hb2 (w.heap.size) (by go_size) 0; simp [go_sem, *] at k2_w_0_0))
  (try (have k2_w_0_1 := cellAt hb2 (w.heap.size) (by go_size) 1; simp [go_sem, *] at k2_w_0_1))
  (try (have f2_w_0 := frozAt hb2 (w.heap.size) (by go_size); simp [go_sem, *] at f2_w_0))
  (try have l2_w_0 : w.heap.size < w2.heap.size := by omega)
  (try (have k2_w_1_0 := cellAt hb2 (w.heap.size + 1) (by go_size) 0; simp [go_sem, *] at k2_w_1_0))
  (try (have k2_w_1_1 := cellAt hb2 (w.heap.size + 1) (by go_size) 1; simp [go_sem, *] at k2_w_1_1))
  (try (have f2_w_1 := frozAt hb2 (w.heap.size + 1) (by go_size); simp [go_sem, *] at f2_w_1))
  (try have l2_w_1 : w.heap.size + 1 < w2.heap.size := by omega)
  (try (have k2_w_2_0 := cellAt hb2 (w.heap.size + 1 + 1) (by go_size) 0; simp [go_sem, *] at k2_w_2_0))
  (try (have k2_w_2_1 := cellAt hb2 (w.heap.size + 1 + 1) (by go_size) 1; simp [go_sem, *] at k2_w_2_1))
  (try (have f2_w_2 := frozAt hb2 (w.heap.size + 1 + 1) (by go_size); simp [go_sem, *] at f2_w_2))
  (try have l2_w_2 : w.heap.size + 1 + 1 < w2.heap.size := by omega)
  (try clear k1_w_0_0)
  (try clear k1_w_0_1)
  (try clear f1_w_0)
  (try clear l1_w_0)
  (try clear k1_w_1_0)
  (try clear k1_w_1_1)
  (try clear f1_w_1)
  (try clear l1_w_1)
  (try clear k1_w_2_0)
  (try clear k1_w_2_1)
  (try clear f1_w_2)
  (try clear l1_w_2)
  go_wp2_with fail
  go_ret
  refine ⟨rfl, ?_⟩
  repeat' first | (with_reducible exact Below.refl _ _) | (with_reducible assumption) | (with_reducible refine below_drewN ?_ _) | (with_reducible refine Below.drew ?_) | (with_reducible refine Below.alloc ?_ ?_ _) | (with_reducible refine Below.setCell ?_ ?_ _) | (with_reducible refine below_via (by assumption) ?_ ?_) | go_size
end Go.Proofs.Ytnkdgcjegjccbaa
