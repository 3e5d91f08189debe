/- Images of points of two-curves: the reference's side. -/
import Derived.Test.YtnkdgcjegjccbaaTwoS
namespace Go.Proofs.Ytnkdgcjegjccbaa
open Go.RowKit
set_option linter.unusedVariables false
set_option maxHeartbeats 8000000
set_option maxRecDepth 20000
set_option linter.unusedSimpArgs false
theorem quF_good {n1 d1 n2 d2 : Int} (h : (quF n1 d1 n2 d2).2.2 = true) : frB (quF n1 d1 n2 d2).1 (quF n1 d1 n2 d2).2.1 = true := by
  unfold quF at h ⊢
  split
  · rename_i h0; rw [if_pos h0] at h; cases h
  · rename_i h0; rw [if_neg h0] at h; exact mkF_frB h
def raT (b nx dx ny dy : Int) : (Int × Int) × (Int × Int) × Bool :=
  let r := quF ny dy nx dx
  let q := quF b 1 nx dx
  if (r.2.2 && q.2.2) = true then
    let s := diF q.1 q.2.1 nx dx
    ((r.1, r.2.1), (s.1, s.2.1), s.2.2)
  else ((0, 0), (0, 0), false)
def boT (rn rd sn sd : Int) : (Int × Int) × (Int × Int) × Bool :=
  let x := prF rn rd rn rd
  let y := prF rn rd sn sd
  if (x.2.2 && y.2.2) = true then ((x.1, x.2.1), (y.1, y.2.1), true) else ((0, 0), (0, 0), false)
theorem raT_good {b nx dx ny dy : Int} (h : (raT b nx dx ny dy).2.2 = true) : frB (raT b nx dx ny dy).1.1 (raT b nx dx ny dy).1.2 = true ∧ frB (raT b nx dx ny dy).2.1.1 (raT b nx dx ny dy).2.1.2 = true := by
  unfold raT at h ⊢
  dsimp only at h ⊢
  split
  · rename_i h0
    rw [if_pos h0] at h
    simp only [Bool.and_eq_true] at h0
    exact ⟨quF_good h0.1, mkF_frB h⟩
  · rename_i h0
    rw [if_neg h0] at h
    cases h
theorem tcRatios_any (b nx dx ny dy : Int) (w : World) (hb : -1000000000 ≤ b ∧ b ≤ 1000000000) (hx : frB nx dx = true) (hy : frB ny dy = true) :
    Calls Try.prog 57 #[.int .i64 b, .agg #[.int .i64 nx, .int .i64 dx], .agg #[.int .i64 ny, .int .i64 dy]] w fun e w' =>
      e = .returned (.tuple #[.agg #[.int .i64 (raT b nx dx ny dy).1.1, .int .i64 (raT b nx dx ny dy).1.2], .agg #[.int .i64 (raT b nx dx ny dy).2.1.1, .int .i64 (raT b nx dx ny dy).2.1.2], .bool (raT b nx dx ny dy).2.2]) ∧ Below w.heap.size w w' := by
  have C1 := fun W : World => Lib.hid (frDiv_any W hy hx)
  have C2 := fun W : World => Lib.hid (frDiv_any W (frB_one hb.1 hb.2) hx)
  have fq : (quF b 1 nx dx).2.2 = true → frB (quF b 1 nx dx).1 (quF b 1 nx dx).2.1 = true := quF_good
  unfold raT
  generalize quF ny dy nx dx = r at *
  generalize quF b 1 nx dx = q at *
  obtain ⟨rn, rd, ro⟩ := r
  obtain ⟨qn, qd, qo⟩ := q
  dsimp only at *
  cases ro
  · simp only [Bool.false_and, Bool.false_eq_true, if_false]
    clear fq
    have tok1 : True := trivial
    have tok2 : True := trivial
    have tok3 : True := trivial
    go_enter Try.func57, Try.ntmps57
    go_wp2_with (first | (have _t := tok1; go_at_call 98; (with_reducible refine ((C1 _).out).mono ?_); rintro e w1 ⟨rfl, hb1⟩; clear tok1 _t; have hz1 := hb1.size; (try simp only [World.size_alloc, World.size_setCell, World.size_drew, World.size_drewN'] at hz1); (try (have k1_w_0_0 := cellAt hb1 (w.heap.size) (by go_size) 0; simp [go_sem, *] at k1_w_0_0)); (try (have k1_w_0_1 := cellAt hb1 (w.heap.size) (by go_size) 1; simp [go_sem, *] at k1_w_0_1)); (try (have f1_w_0 := frozAt hb1 (w.heap.size) (by go_size); simp [go_sem, *] at f1_w_0)); (try have l1_w_0 : w.heap.size < w1.heap.size := by omega); (try (have k1_w_1_0 := cellAt hb1 (w.heap.size + 1) (by go_size) 0; simp [go_sem, *] at k1_w_1_0)); (try (have k1_w_1_1 := cellAt hb1 (w.heap.size + 1) (by go_size) 1; simp [go_sem, *] at k1_w_1_1)); (try (have f1_w_1 := frozAt hb1 (w.heap.size + 1) (by go_size); simp [go_sem, *] at f1_w_1)); (try have l1_w_1 : w.heap.size + 1 < w1.heap.size := by omega); (try (have k1_w_2_0 := cellAt hb1 (w.heap.size + 1 + 1) (by go_size) 0; simp [go_sem, *] at k1_w_2_0)); (try (have k1_w_2_1 := cellAt hb1 (w.heap.size + 1 + 1) (by go_size) 1; simp [go_sem, *] at k1_w_2_1)); (try (have f1_w_2 := frozAt hb1 (w.heap.size + 1 + 1) (by go_size); simp [go_sem, *] at f1_w_2)); (try have l1_w_2 : w.heap.size + 1 + 1 < w1.heap.size := by omega); (try (have k1_w_3_0 := cellAt hb1 (w.heap.size + 1 + 1 + 1) (by go_size) 0; simp [go_sem, *] at k1_w_3_0)); (try (have k1_w_3_1 := cellAt hb1 (w.heap.size + 1 + 1 + 1) (by go_size) 1; simp [go_sem, *] at k1_w_3_1)); (try (have f1_w_3 := frozAt hb1 (w.heap.size + 1 + 1 + 1) (by go_size); simp [go_sem, *] at f1_w_3)); (try have l1_w_3 : w.heap.size + 1 + 1 + 1 < w1.heap.size := by omega)))
    refine wp_drawn_fill (n := 7) 11 26 30 #[.int .i64 0, .int .i64 0] (by kernel_rfl) (by kernel_rfl) (by kernel_rfl) ⟨_, rfl, rfl, rfl, fun _ _ => by simp [go_sem]⟩ ⟨_, rfl, rfl, rfl, rfl⟩ (by kernel_rfl) (by kernel_rfl) (by kernel_rfl) ?_
    apply Exists.intro
    refine ⟨?_, ?_⟩
    · intro W hW
      try (have kx_w_0_0 := fun x => xcell hW (w.heap.size) (by go_size) x 0; simp [go_sem, *] at kx_w_0_0)
      try (have kx_w_0_1 := fun x => xcell hW (w.heap.size) (by go_size) x 1; simp [go_sem, *] at kx_w_0_1)
      try (have kx_w_1_0 := fun x => xcell hW (w.heap.size + 1) (by go_size) x 0; simp [go_sem, *] at kx_w_1_0)
      try (have kx_w_1_1 := fun x => xcell hW (w.heap.size + 1) (by go_size) x 1; simp [go_sem, *] at kx_w_1_1)
      try (have kx_w_2_0 := fun x => xcell hW (w.heap.size + 1 + 1) (by go_size) x 0; simp [go_sem, *] at kx_w_2_0)
      try (have kx_w_2_1 := fun x => xcell hW (w.heap.size + 1 + 1) (by go_size) x 1; simp [go_sem, *] at kx_w_2_1)
      try (have kx_w_3_0 := fun x => xcell hW (w.heap.size + 1 + 1 + 1) (by go_size) x 0; simp [go_sem, *] at kx_w_3_0)
      try (have kx_w_3_1 := fun x => xcell hW (w.heap.size + 1 + 1 + 1) (by go_size) x 1; simp [go_sem, *] at kx_w_3_1)
      try (have kx_w1_0_0 := fun x => xcell hW (w1.heap.size) (by go_size) x 0; simp [go_sem, *] at kx_w1_0_0)
      try (have kx_w1_0_1 := fun x => xcell hW (w1.heap.size) (by go_size) x 1; simp [go_sem, *] at kx_w1_0_1)
      simp only [List.take_succ_cons, List.take_zero]
      repeat (go_big_quiet_step ((first | (go_at_call 96; exact draw_of _ (frInt_any _ _)) | (go_at_call 98; (with_reducible exact draw_of _ ((C2 _).out))))))
      exact wpQuiet_nil rfl
    refine ⟨_, rfl, rfl, by simp [Value.oneCell'], ?_⟩
    intro g2 w2 hb2 hg2 hk2
    try simp only [World.size_alloc, World.size_setCell, World.size_drew, World.size_drewN'] at hg2
    try have lg2_w_0 : w.heap.size < g2 := by omega
    try have lg2_w_1 : w.heap.size + 1 < g2 := by omega
    try have lg2_w_2 : w.heap.size + 1 + 1 < g2 := by omega
    try have lg2_w_3 : w.heap.size + 1 + 1 + 1 < g2 := by omega
    try have lg2_w1_0 : w1.heap.size < g2 := by omega
    simp only [List.drop_succ_cons, List.drop_zero, Act.put, List.setIfInBounds_toArray, List.set_cons_succ, List.set_cons_zero]
    have hz2 := hb2.size
    (try simp only [World.size_alloc, World.size_setCell, World.size_drew, World.size_drewN'] at hz2)
    (try (have k2_w_0_0 := cellAt hb2 (w.heap.size) (by go_size) 0; simp [go_sem, *] at k2_w_0_0))
    (try (have k2_w_0_1 := cellAt hb2 (w.heap.size) (by go_size) 1; simp [go_sem, *] at k2_w_0_1))
    (try (have f2_w_0 := frozAt hb2 (w.heap.size) (by go_size); simp [go_sem, *] at f2_w_0))
    (try have l2_w_0 : w.heap.size < w2.heap.size := by omega)
    (try (have k2_w_1_0 := cellAt hb2 (w.heap.size + 1) (by go_size) 0; simp [go_sem, *] at k2_w_1_0))
    (try (have k2_w_1_1 := cellAt hb2 (w.heap.size + 1) (by go_size) 1; simp [go_sem, *] at k2_w_1_1))
    (try (have f2_w_1 := frozAt hb2 (w.heap.size + 1) (by go_size); simp [go_sem, *] at f2_w_1))
    (try have l2_w_1 : w.heap.size + 1 < w2.heap.size := by omega)
    (try (have k2_w_2_0 := cellAt hb2 (w.heap.size + 1 + 1) (by go_size) 0; simp [go_sem, *] at k2_w_2_0))
    (try (have k2_w_2_1 := cellAt hb2 (w.heap.size + 1 + 1) (by go_size) 1; simp [go_sem, *] at k2_w_2_1))
    (try (have f2_w_2 := frozAt hb2 (w.heap.size + 1 + 1) (by go_size); simp [go_sem, *] at f2_w_2))
    (try have l2_w_2 : w.heap.size + 1 + 1 < w2.heap.size := by omega)
    (try (have k2_w_3_0 := cellAt hb2 (w.heap.size + 1 + 1 + 1) (by go_size) 0; simp [go_sem, *] at k2_w_3_0))
    (try (have k2_w_3_1 := cellAt hb2 (w.heap.size + 1 + 1 + 1) (by go_size) 1; simp [go_sem, *] at k2_w_3_1))
    (try (have f2_w_3 := frozAt hb2 (w.heap.size + 1 + 1 + 1) (by go_size); simp [go_sem, *] at f2_w_3))
    (try have l2_w_3 : w.heap.size + 1 + 1 + 1 < w2.heap.size := by omega)
    (try (have k2_w1_0_0 := cellAt hb2 (w1.heap.size) (by go_size) 0; simp [go_sem, *] at k2_w1_0_0))
    (try (have k2_w1_0_1 := cellAt hb2 (w1.heap.size) (by go_size) 1; simp [go_sem, *] at k2_w1_0_1))
    (try (have f2_w1_0 := frozAt hb2 (w1.heap.size) (by go_size); simp [go_sem, *] at f2_w1_0))
    (try have l2_w1_0 : w1.heap.size < w2.heap.size := by omega)
    (try clear k1_w_0_0)
    (try clear k1_w_0_1)
    (try clear f1_w_0)
    (try clear l1_w_0)
    (try clear k1_w_1_0)
    (try clear k1_w_1_1)
    (try clear f1_w_1)
    (try clear l1_w_1)
    (try clear k1_w_2_0)
    (try clear k1_w_2_1)
    (try clear f1_w_2)
    (try clear l1_w_2)
    (try clear k1_w_3_0)
    (try clear k1_w_3_1)
    (try clear f1_w_3)
    (try clear l1_w_3)
    have kg2 := blk_cell hk2
    have fg2 := blk_frozen hk2
    have lg2 := blk_lt hk2
    go_wp2
    refine bodyPost_ret (v := _) (by simp [results, Try.results57, go_sem, *]) rfl ⟨rfl, ?_⟩
    repeat' first | (with_reducible exact Below.refl _ _) | (with_reducible assumption) | (with_reducible refine below_drewN ?_ _) | (with_reducible refine Below.drew ?_) | (with_reducible refine Below.alloc ?_ ?_ _) | (with_reducible refine Below.setCell ?_ ?_ _) | (with_reducible refine below_via (by assumption) ?_ ?_) | go_size
  · cases qo
    · simp only [Bool.and_false, Bool.false_eq_true, if_false]
      clear fq
      have tok1 : True := trivial
      have tok2 : True := trivial
      have tok3 : True := trivial
      go_enter Try.func57, Try.ntmps57
      go_wp2_with (first | (have _t := tok1; go_at_call 98; (with_reducible refine ((C1 _).out).mono ?_); rintro e w1 ⟨rfl, hb1⟩; clear tok1 _t; have hz1 := hb1.size; (try simp only [World.size_alloc, World.size_setCell, World.size_drew, World.size_drewN'] at hz1); (try (have k1_w_0_0 := cellAt hb1 (w.heap.size) (by go_size) 0; simp [go_sem, *] at k1_w_0_0)); (try (have k1_w_0_1 := cellAt hb1 (w.heap.size) (by go_size) 1; simp [go_sem, *] at k1_w_0_1)); (try (have f1_w_0 := frozAt hb1 (w.heap.size) (by go_size); simp [go_sem, *] at f1_w_0)); (try have l1_w_0 : w.heap.size < w1.heap.size := by omega); (try (have k1_w_1_0 := cellAt hb1 (w.heap.size + 1) (by go_size) 0; simp [go_sem, *] at k1_w_1_0)); (try (have k1_w_1_1 := cellAt hb1 (w.heap.size + 1) (by go_size) 1; simp [go_sem, *] at k1_w_1_1)); (try (have f1_w_1 := frozAt hb1 (w.heap.size + 1) (by go_size); simp [go_sem, *] at f1_w_1)); (try have l1_w_1 : w.heap.size + 1 < w1.heap.size := by omega); (try (have k1_w_2_0 := cellAt hb1 (w.heap.size + 1 + 1) (by go_size) 0; simp [go_sem, *] at k1_w_2_0)); (try (have k1_w_2_1 := cellAt hb1 (w.heap.size + 1 + 1) (by go_size) 1; simp [go_sem, *] at k1_w_2_1)); (try (have f1_w_2 := frozAt hb1 (w.heap.size + 1 + 1) (by go_size); simp [go_sem, *] at f1_w_2)); (try have l1_w_2 : w.heap.size + 1 + 1 < w1.heap.size := by omega); (try (have k1_w_3_0 := cellAt hb1 (w.heap.size + 1 + 1 + 1) (by go_size) 0; simp [go_sem, *] at k1_w_3_0)); (try (have k1_w_3_1 := cellAt hb1 (w.heap.size + 1 + 1 + 1) (by go_size) 1; simp [go_sem, *] at k1_w_3_1)); (try (have f1_w_3 := frozAt hb1 (w.heap.size + 1 + 1 + 1) (by go_size); simp [go_sem, *] at f1_w_3)); (try have l1_w_3 : w.heap.size + 1 + 1 + 1 < w1.heap.size := by omega)))
      refine wp_drawn_fill (n := 7) 11 26 30 #[.int .i64 0, .int .i64 0] (by kernel_rfl) (by kernel_rfl) (by kernel_rfl) ⟨_, rfl, rfl, rfl, fun _ _ => by simp [go_sem]⟩ ⟨_, rfl, rfl, rfl, rfl⟩ (by kernel_rfl) (by kernel_rfl) (by kernel_rfl) ?_
      apply Exists.intro
      refine ⟨?_, ?_⟩
      · intro W hW
        try (have kx_w_0_0 := fun x => xcell hW (w.heap.size) (by go_size) x 0; simp [go_sem, *] at kx_w_0_0)
        try (have kx_w_0_1 := fun x => xcell hW (w.heap.size) (by go_size) x 1; simp [go_sem, *] at kx_w_0_1)
        try (have kx_w_1_0 := fun x => xcell hW (w.heap.size + 1) (by go_size) x 0; simp [go_sem, *] at kx_w_1_0)
        try (have kx_w_1_1 := fun x => xcell hW (w.heap.size + 1) (by go_size) x 1; simp [go_sem, *] at kx_w_1_1)
        try (have kx_w_2_0 := fun x => xcell hW (w.heap.size + 1 + 1) (by go_size) x 0; simp [go_sem, *] at kx_w_2_0)
        try (have kx_w_2_1 := fun x => xcell hW (w.heap.size + 1 + 1) (by go_size) x 1; simp [go_sem, *] at kx_w_2_1)
        try (have kx_w_3_0 := fun x => xcell hW (w.heap.size + 1 + 1 + 1) (by go_size) x 0; simp [go_sem, *] at kx_w_3_0)
        try (have kx_w_3_1 := fun x => xcell hW (w.heap.size + 1 + 1 + 1) (by go_size) x 1; simp [go_sem, *] at kx_w_3_1)
        try (have kx_w1_0_0 := fun x => xcell hW (w1.heap.size) (by go_size) x 0; simp [go_sem, *] at kx_w1_0_0)
        try (have kx_w1_0_1 := fun x => xcell hW (w1.heap.size) (by go_size) x 1; simp [go_sem, *] at kx_w1_0_1)
        simp only [List.take_succ_cons, List.take_zero]
        repeat (go_big_quiet_step ((first | (go_at_call 96; exact draw_of _ (frInt_any _ _)) | (go_at_call 98; (with_reducible exact draw_of _ ((C2 _).out))))))
        exact wpQuiet_nil rfl
      refine ⟨_, rfl, rfl, by simp [Value.oneCell'], ?_⟩
      intro g2 w2 hb2 hg2 hk2
      try simp only [World.size_alloc, World.size_setCell, World.size_drew, World.size_drewN'] at hg2
      try have lg2_w_0 : w.heap.size < g2 := by omega
      try have lg2_w_1 : w.heap.size + 1 < g2 := by omega
      try have lg2_w_2 : w.heap.size + 1 + 1 < g2 := by omega
      try have lg2_w_3 : w.heap.size + 1 + 1 + 1 < g2 := by omega
      try have lg2_w1_0 : w1.heap.size < g2 := by omega
      simp only [List.drop_succ_cons, List.drop_zero, Act.put, List.setIfInBounds_toArray, List.set_cons_succ, List.set_cons_zero]
      have hz2 := hb2.size
      (try simp only [World.size_alloc, World.size_setCell, World.size_drew, World.size_drewN'] at hz2)
      (try (have k2_w_0_0 := cellAt hb2 (w.heap.size) (by go_size) 0; simp [go_sem, *] at k2_w_0_0))
      (try (have k2_w_0_1 := cellAt hb2 (w.heap.size) (by go_size) 1; simp [go_sem, *] at k2_w_0_1))
      (try (have f2_w_0 := frozAt hb2 (w.heap.size) (by go_size); simp [go_sem, *] at f2_w_0))
      (try have l2_w_0 : w.heap.size < w2.heap.size := by omega)
      (try (have k2_w_1_0 := cellAt hb2 (w.heap.size + 1) (by go_size) 0; simp [go_sem, *] at k2_w_1_0))
      (try (have k2_w_1_1 := cellAt hb2 (w.heap.size + 1) (by go_size) 1; simp [go_sem, *] at k2_w_1_1))
      (try (have f2_w_1 := frozAt hb2 (w.heap.size + 1) (by go_size); simp [go_sem, *] at f2_w_1))
      (try have l2_w_1 : w.heap.size + 1 < w2.heap.size := by omega)
      (try (have k2_w_2_0 := cellAt hb2 (w.heap.size + 1 + 1) (by go_size) 0; simp [go_sem, *] at k2_w_2_0))
      (try (have k2_w_2_1 := cellAt hb2 (w.heap.size + 1 + 1) (by go_size) 1; simp [go_sem, *] at k2_w_2_1))
      (try (have f2_w_2 := frozAt hb2 (w.heap.size + 1 + 1) (by go_size); simp [go_sem, *] at f2_w_2))
      (try have l2_w_2 : w.heap.size + 1 + 1 < w2.heap.size := by omega)
      (try (have k2_w_3_0 := cellAt hb2 (w.heap.size + 1 + 1 + 1) (by go_size) 0; simp [go_sem, *] at k2_w_3_0))
      (try (have k2_w_3_1 := cellAt hb2 (w.heap.size + 1 + 1 + 1) (by go_size) 1; simp [go_sem, *] at k2_w_3_1))
      (try (have f2_w_3 := frozAt hb2 (w.heap.size + 1 + 1 + 1) (by go_size); simp [go_sem, *] at f2_w_3))
      (try have l2_w_3 : w.heap.size + 1 + 1 + 1 < w2.heap.size := by omega)
      (try (have k2_w1_0_0 := cellAt hb2 (w1.heap.size) (by go_size) 0; simp [go_sem, *] at k2_w1_0_0))
      (try (have k2_w1_0_1 := cellAt hb2 (w1.heap.size) (by go_size) 1; simp [go_sem, *] at k2_w1_0_1))
      (try (have f2_w1_0 := frozAt hb2 (w1.heap.size) (by go_size); simp [go_sem, *] at f2_w1_0))
      (try have l2_w1_0 : w1.heap.size < w2.heap.size := by omega)
      (try clear k1_w_0_0)
      (try clear k1_w_0_1)
      (try clear f1_w_0)
      (try clear l1_w_0)
      (try clear k1_w_1_0)
      (try clear k1_w_1_1)
      (try clear f1_w_1)
      (try clear l1_w_1)
      (try clear k1_w_2_0)
      (try clear k1_w_2_1)
      (try clear f1_w_2)
      (try clear l1_w_2)
      (try clear k1_w_3_0)
      (try clear k1_w_3_1)
      (try clear f1_w_3)
      (try clear l1_w_3)
      have kg2 := blk_cell hk2
      have fg2 := blk_frozen hk2
      have lg2 := blk_lt hk2
      go_wp2
      refine bodyPost_ret (v := _) (by simp [results, Try.results57, go_sem, *]) rfl ⟨rfl, ?_⟩
      repeat' first | (with_reducible exact Below.refl _ _) | (with_reducible assumption) | (with_reducible refine below_drewN ?_ _) | (with_reducible refine Below.drew ?_) | (with_reducible refine Below.alloc ?_ ?_ _) | (with_reducible refine Below.setCell ?_ ?_ _) | (with_reducible refine below_via (by assumption) ?_ ?_) | go_size
    · simp only [Bool.and_true, if_true]
      have fq := fq rfl
      have C3 := fun W : World => Lib.hid (frSub_any W fq hx)
      generalize diF qn qd nx dx = s at *
      obtain ⟨sn, sd, so⟩ := s
      dsimp only at *
      have tok1 : True := trivial
      have tok2 : True := trivial
      have tok3 : True := trivial
      go_enter Try.func57, Try.ntmps57
      go_wp2_with (first | (have _t := tok1; go_at_call 98; (with_reducible refine ((C1 _).out).mono ?_); rintro e w1 ⟨rfl, hb1⟩; clear tok1 _t; have hz1 := hb1.size; (try simp only [World.size_alloc, World.size_setCell, World.size_drew, World.size_drewN'] at hz1); (try (have k1_w_0_0 := cellAt hb1 (w.heap.size) (by go_size) 0; simp [go_sem, *] at k1_w_0_0)); (try (have k1_w_0_1 := cellAt hb1 (w.heap.size) (by go_size) 1; simp [go_sem, *] at k1_w_0_1)); (try (have f1_w_0 := frozAt hb1 (w.heap.size) (by go_size); simp [go_sem, *] at f1_w_0)); (try have l1_w_0 : w.heap.size < w1.heap.size := by omega); (try (have k1_w_1_0 := cellAt hb1 (w.heap.size + 1) (by go_size) 0; simp [go_sem, *] at k1_w_1_0)); (try (have k1_w_1_1 := cellAt hb1 (w.heap.size + 1) (by go_size) 1; simp [go_sem, *] at k1_w_1_1)); (try (have f1_w_1 := frozAt hb1 (w.heap.size + 1) (by go_size); simp [go_sem, *] at f1_w_1)); (try have l1_w_1 : w.heap.size + 1 < w1.heap.size := by omega); (try (have k1_w_2_0 := cellAt hb1 (w.heap.size + 1 + 1) (by go_size) 0; simp [go_sem, *] at k1_w_2_0)); (try (have k1_w_2_1 := cellAt hb1 (w.heap.size + 1 + 1) (by go_size) 1; simp [go_sem, *] at k1_w_2_1)); (try (have f1_w_2 := frozAt hb1 (w.heap.size + 1 + 1) (by go_size); simp [go_sem, *] at f1_w_2)); (try have l1_w_2 : w.heap.size + 1 + 1 < w1.heap.size := by omega); (try (have k1_w_3_0 := cellAt hb1 (w.heap.size + 1 + 1 + 1) (by go_size) 0; simp [go_sem, *] at k1_w_3_0)); (try (have k1_w_3_1 := cellAt hb1 (w.heap.size + 1 + 1 + 1) (by go_size) 1; simp [go_sem, *] at k1_w_3_1)); (try (have f1_w_3 := frozAt hb1 (w.heap.size + 1 + 1 + 1) (by go_size); simp [go_sem, *] at f1_w_3)); (try have l1_w_3 : w.heap.size + 1 + 1 + 1 < w1.heap.size := by omega)))
      refine wp_drawn_fill (n := 7) 11 26 30 #[.int .i64 0, .int .i64 0] (by kernel_rfl) (by kernel_rfl) (by kernel_rfl) ⟨_, rfl, rfl, rfl, fun _ _ => by simp [go_sem]⟩ ⟨_, rfl, rfl, rfl, rfl⟩ (by kernel_rfl) (by kernel_rfl) (by kernel_rfl) ?_
      apply Exists.intro
      refine ⟨?_, ?_⟩
      · intro W hW
        try (have kx_w_0_0 := fun x => xcell hW (w.heap.size) (by go_size) x 0; simp [go_sem, *] at kx_w_0_0)
        try (have kx_w_0_1 := fun x => xcell hW (w.heap.size) (by go_size) x 1; simp [go_sem, *] at kx_w_0_1)
        try (have kx_w_1_0 := fun x => xcell hW (w.heap.size + 1) (by go_size) x 0; simp [go_sem, *] at kx_w_1_0)
        try (have kx_w_1_1 := fun x => xcell hW (w.heap.size + 1) (by go_size) x 1; simp [go_sem, *] at kx_w_1_1)
        try (have kx_w_2_0 := fun x => xcell hW (w.heap.size + 1 + 1) (by go_size) x 0; simp [go_sem, *] at kx_w_2_0)
        try (have kx_w_2_1 := fun x => xcell hW (w.heap.size + 1 + 1) (by go_size) x 1; simp [go_sem, *] at kx_w_2_1)
        try (have kx_w_3_0 := fun x => xcell hW (w.heap.size + 1 + 1 + 1) (by go_size) x 0; simp [go_sem, *] at kx_w_3_0)
        try (have kx_w_3_1 := fun x => xcell hW (w.heap.size + 1 + 1 + 1) (by go_size) x 1; simp [go_sem, *] at kx_w_3_1)
        try (have kx_w1_0_0 := fun x => xcell hW (w1.heap.size) (by go_size) x 0; simp [go_sem, *] at kx_w1_0_0)
        try (have kx_w1_0_1 := fun x => xcell hW (w1.heap.size) (by go_size) x 1; simp [go_sem, *] at kx_w1_0_1)
        simp only [List.take_succ_cons, List.take_zero]
        repeat (go_big_quiet_step ((first | (go_at_call 96; exact draw_of _ (frInt_any _ _)) | (go_at_call 98; (with_reducible exact draw_of _ ((C2 _).out))))))
        exact wpQuiet_nil rfl
      refine ⟨_, rfl, rfl, by simp [Value.oneCell'], ?_⟩
      intro g2 w2 hb2 hg2 hk2
      try simp only [World.size_alloc, World.size_setCell, World.size_drew, World.size_drewN'] at hg2
      try have lg2_w_0 : w.heap.size < g2 := by omega
      try have lg2_w_1 : w.heap.size + 1 < g2 := by omega
      try have lg2_w_2 : w.heap.size + 1 + 1 < g2 := by omega
      try have lg2_w_3 : w.heap.size + 1 + 1 + 1 < g2 := by omega
      try have lg2_w1_0 : w1.heap.size < g2 := by omega
      simp only [List.drop_succ_cons, List.drop_zero, Act.put, List.setIfInBounds_toArray, List.set_cons_succ, List.set_cons_zero]
      have hz2 := hb2.size
      (try simp only [World.size_alloc, World.size_setCell, World.size_drew, World.size_drewN'] at hz2)
      (try (have k2_w_0_0 := cellAt hb2 (w.heap.size) (by go_size) 0; simp [go_sem, *] at k2_w_0_0))
      (try (have k2_w_0_1 := cellAt hb2 (w.heap.size) (by go_size) 1; simp [go_sem, *] at k2_w_0_1))
      (try (have f2_w_0 := frozAt hb2 (w.heap.size) (by go_size); simp [go_sem, *] at f2_w_0))
      (try have l2_w_0 : w.heap.size < w2.heap.size := by omega)
      (try (have k2_w_1_0 := cellAt hb2 (w.heap.size + 1) (by go_size) 0; simp [go_sem, *] at k2_w_1_0))
      (try (have k2_w_1_1 := cellAt hb2 (w.heap.size + 1) (by go_size) 1; simp [go_sem, *] at k2_w_1_1))
      (try (have f2_w_1 := frozAt hb2 (w.heap.size + 1) (by go_size); simp [go_sem, *] at f2_w_1))
      (try have l2_w_1 : w.heap.size + 1 < w2.heap.size := by omega)
      (try (have k2_w_2_0 := cellAt hb2 (w.heap.size + 1 + 1) (by go_size) 0; simp [go_sem, *] at k2_w_2_0))
      (try (have k2_w_2_1 := cellAt hb2 (w.heap.size + 1 + 1) (by go_size) 1; simp [go_sem, *] at k2_w_2_1))
      (try (have f2_w_2 := frozAt hb2 (w.heap.size + 1 + 1) (by go_size); simp [go_sem, *] at f2_w_2))
      (try have l2_w_2 : w.heap.size + 1 + 1 < w2.heap.size := by omega)
      (try (have k2_w_3_0 := cellAt hb2 (w.heap.size + 1 + 1 + 1) (by go_size) 0; simp [go_sem, *] at k2_w_3_0))
      (try (have k2_w_3_1 := cellAt hb2 (w.heap.size + 1 + 1 + 1) (by go_size) 1; simp [go_sem, *] at k2_w_3_1))
      (try (have f2_w_3 := frozAt hb2 (w.heap.size + 1 + 1 + 1) (by go_size); simp [go_sem, *] at f2_w_3))
      (try have l2_w_3 : w.heap.size + 1 + 1 + 1 < w2.heap.size := by omega)
      (try (have k2_w1_0_0 := cellAt hb2 (w1.heap.size) (by go_size) 0; simp [go_sem, *] at k2_w1_0_0))
      (try (have k2_w1_0_1 := cellAt hb2 (w1.heap.size) (by go_size) 1; simp [go_sem, *] at k2_w1_0_1))
      (try (have f2_w1_0 := frozAt hb2 (w1.heap.size) (by go_size); simp [go_sem, *] at f2_w1_0))
      (try have l2_w1_0 : w1.heap.size < w2.heap.size := by omega)
      (try clear k1_w_0_0)
      (try clear k1_w_0_1)
      (try clear f1_w_0)
      (try clear l1_w_0)
      (try clear k1_w_1_0)
      (try clear k1_w_1_1)
      (try clear f1_w_1)
      (try clear l1_w_1)
      (try clear k1_w_2_0)
      (try clear k1_w_2_1)
      (try clear f1_w_2)
      (try clear l1_w_2)
      (try clear k1_w_3_0)
      (try clear k1_w_3_1)
      (try clear f1_w_3)
      (try clear l1_w_3)
      have kg2 := blk_cell hk2
      have fg2 := blk_frozen hk2
      have lg2 := blk_lt hk2
      go_wp2_with (first | (have _t := tok3; go_at_call 99; (with_reducible refine ((C3 _).out).mono ?_); rintro e w3 ⟨rfl, hb3⟩; clear tok3 _t; have hz3 := hb3.size; (try simp only [World.size_alloc, World.size_setCell, World.size_drew, World.size_drewN'] at hz3); (try (have k3_w_0_0 := cellAt hb3 (w.heap.size) (by go_size) 0; simp [go_sem, *] at k3_w_0_0)); (try (have k3_w_0_1 := cellAt hb3 (w.heap.size) (by go_size) 1; simp [go_sem, *] at k3_w_0_1)); (try (have f3_w_0 := frozAt hb3 (w.heap.size) (by go_size); simp [go_sem, *] at f3_w_0)); (try have l3_w_0 : w.heap.size < w3.heap.size := by omega); (try (have k3_w_1_0 := cellAt hb3 (w.heap.size + 1) (by go_size) 0; simp [go_sem, *] at k3_w_1_0)); (try (have k3_w_1_1 := cellAt hb3 (w.heap.size + 1) (by go_size) 1; simp [go_sem, *] at k3_w_1_1)); (try (have f3_w_1 := frozAt hb3 (w.heap.size + 1) (by go_size); simp [go_sem, *] at f3_w_1)); (try have l3_w_1 : w.heap.size + 1 < w3.heap.size := by omega); (try (have k3_w_2_0 := cellAt hb3 (w.heap.size + 1 + 1) (by go_size) 0; simp [go_sem, *] at k3_w_2_0)); (try (have k3_w_2_1 := cellAt hb3 (w.heap.size + 1 + 1) (by go_size) 1; simp [go_sem, *] at k3_w_2_1)); (try (have f3_w_2 := frozAt hb3 (w.heap.size + 1 + 1) (by go_size); simp [go_sem, *] at f3_w_2)); (try have l3_w_2 : w.heap.size + 1 + 1 < w3.heap.size := by omega); (try (have k3_w_3_0 := cellAt hb3 (w.heap.size + 1 + 1 + 1) (by go_size) 0; simp [go_sem, *] at k3_w_3_0)); (try (have k3_w_3_1 := cellAt hb3 (w.heap.size + 1 + 1 + 1) (by go_size) 1; simp [go_sem, *] at k3_w_3_1)); (try (have f3_w_3 := frozAt hb3 (w.heap.size + 1 + 1 + 1) (by go_size); simp [go_sem, *] at f3_w_3)); (try have l3_w_3 : w.heap.size + 1 + 1 + 1 < w3.heap.size := by omega); (try (have k3_w1_0_0 := cellAt hb3 (w1.heap.size) (by go_size) 0; simp [go_sem, *] at k3_w1_0_0)); (try (have k3_w1_0_1 := cellAt hb3 (w1.heap.size) (by go_size) 1; simp [go_sem, *] at k3_w1_0_1)); (try (have f3_w1_0 := frozAt hb3 (w1.heap.size) (by go_size); simp [go_sem, *] at f3_w1_0)); (try have l3_w1_0 : w1.heap.size < w3.heap.size := by omega); (try (have k3_g2_0 := cellAt hb3 (g2) (by go_size) 0; simp [go_sem, *] at k3_g2_0)); (try (have k3_g2_1 := cellAt hb3 (g2) (by go_size) 1; simp [go_sem, *] at k3_g2_1)); (try (have f3_g2 := frozAt hb3 (g2) (by go_size); simp [go_sem, *] at f3_g2)); (try have l3_g2 : g2 < w3.heap.size := by omega); (try clear k1_w_0_0); (try clear k1_w_0_1); (try clear f1_w_0); (try clear l1_w_0); (try clear k1_w_1_0); (try clear k1_w_1_1); (try clear f1_w_1); (try clear l1_w_1); (try clear k1_w_2_0); (try clear k1_w_2_1); (try clear f1_w_2); (try clear l1_w_2); (try clear k1_w_3_0); (try clear k1_w_3_1); (try clear f1_w_3); (try clear l1_w_3); (try clear k2_w_0_0); (try clear k2_w_0_1); (try clear f2_w_0); (try clear l2_w_0); (try clear k2_w_1_0); (try clear k2_w_1_1); (try clear f2_w_1); (try clear l2_w_1); (try clear k2_w_2_0); (try clear k2_w_2_1); (try clear f2_w_2); (try clear l2_w_2); (try clear k2_w_3_0); (try clear k2_w_3_1); (try clear f2_w_3); (try clear l2_w_3); (try clear k2_w1_0_0); (try clear k2_w1_0_1); (try clear f2_w1_0); (try clear l2_w1_0)))
      go_region
      all_goals
        go_wp2
        refine bodyPost_ret (v := _) (by simp [results, Try.results57, go_sem, *]) rfl ⟨rfl, ?_⟩
        repeat' first | (with_reducible exact Below.refl _ _) | (with_reducible assumption) | (with_reducible refine below_drewN ?_ _) | (with_reducible refine Below.drew ?_) | (with_reducible refine Below.alloc ?_ ?_ _) | (with_reducible refine Below.setCell ?_ ?_ _) | (with_reducible refine below_via (by assumption) ?_ ?_) | go_size
theorem tcBoth_any (rn rd sn sd : Int) (w : World) (hr : frB rn rd = true) (hs : frB sn sd = true) :
    Calls Try.prog 58 #[.agg #[.int .i64 rn, .int .i64 rd], .agg #[.int .i64 sn, .int .i64 sd]] w fun e w' =>
      e = .returned (.tuple #[.agg #[.int .i64 (boT rn rd sn sd).1.1, .int .i64 (boT rn rd sn sd).1.2], .agg #[.int .i64 (boT rn rd sn sd).2.1.1, .int .i64 (boT rn rd sn sd).2.1.2], .bool (boT rn rd sn sd).2.2]) ∧ Below w.heap.size w w' := by
  have C1 := fun W : World => Lib.hid (frMul_any W hr hr)
  have C2 := fun W : World => Lib.hid (frMul_any W hr hs)
  unfold boT
  generalize prF rn rd rn rd = x at *
  generalize prF rn rd sn sd = y at *
  obtain ⟨xn, xd, xo⟩ := x
  obtain ⟨yn, yd, yo⟩ := y
  dsimp only at *
  cases xo
  · simp only [Bool.false_and, Bool.false_eq_true, if_false]
    have tok1 : True := trivial
    have tok2 : True := trivial
    go_enter Try.func58, Try.ntmps58
    go_wp2_with (first | (have _t := tok1; go_at_call 65; (with_reducible refine ((C1 _).out).mono ?_); rintro e w1 ⟨rfl, hb1⟩; clear tok1 _t; have hz1 := hb1.size; (try simp only [World.size_alloc, World.size_setCell, World.size_drew, World.size_drewN'] at hz1); (try (have k1_w_0_0 := cellAt hb1 (w.heap.size) (by go_size) 0; simp [go_sem, *] at k1_w_0_0)); (try (have k1_w_0_1 := cellAt hb1 (w.heap.size) (by go_size) 1; simp [go_sem, *] at k1_w_0_1)); (try (have f1_w_0 := frozAt hb1 (w.heap.size) (by go_size); simp [go_sem, *] at f1_w_0)); (try have l1_w_0 : w.heap.size < w1.heap.size := by omega); (try (have k1_w_1_0 := cellAt hb1 (w.heap.size + 1) (by go_size) 0; simp [go_sem, *] at k1_w_1_0)); (try (have k1_w_1_1 := cellAt hb1 (w.heap.size + 1) (by go_size) 1; simp [go_sem, *] at k1_w_1_1)); (try (have f1_w_1 := frozAt hb1 (w.heap.size + 1) (by go_size); simp [go_sem, *] at f1_w_1)); (try have l1_w_1 : w.heap.size + 1 < w1.heap.size := by omega); (try (have k1_w_2_0 := cellAt hb1 (w.heap.size + 1 + 1) (by go_size) 0; simp [go_sem, *] at k1_w_2_0)); (try (have k1_w_2_1 := cellAt hb1 (w.heap.size + 1 + 1) (by go_size) 1; simp [go_sem, *] at k1_w_2_1)); (try (have f1_w_2 := frozAt hb1 (w.heap.size + 1 + 1) (by go_size); simp [go_sem, *] at f1_w_2)); (try have l1_w_2 : w.heap.size + 1 + 1 < w1.heap.size := by omega); (try (have k1_w_3_0 := cellAt hb1 (w.heap.size + 1 + 1 + 1) (by go_size) 0; simp [go_sem, *] at k1_w_3_0)); (try (have k1_w_3_1 := cellAt hb1 (w.heap.size + 1 + 1 + 1) (by go_size) 1; simp [go_sem, *] at k1_w_3_1)); (try (have f1_w_3 := frozAt hb1 (w.heap.size + 1 + 1 + 1) (by go_size); simp [go_sem, *] at f1_w_3)); (try have l1_w_3 : w.heap.size + 1 + 1 + 1 < w1.heap.size := by omega)) | (have _t := tok2; go_at_call 65; (with_reducible refine ((C2 _).out).mono ?_); rintro e w2 ⟨rfl, hb2⟩; clear tok2 _t; have hz2 := hb2.size; (try simp only [World.size_alloc, World.size_setCell, World.size_drew, World.size_drewN'] at hz2); (try (have k2_w_0_0 := cellAt hb2 (w.heap.size) (by go_size) 0; simp [go_sem, *] at k2_w_0_0)); (try (have k2_w_0_1 := cellAt hb2 (w.heap.size) (by go_size) 1; simp [go_sem, *] at k2_w_0_1)); (try (have f2_w_0 := frozAt hb2 (w.heap.size) (by go_size); simp [go_sem, *] at f2_w_0)); (try have l2_w_0 : w.heap.size < w2.heap.size := by omega); (try (have k2_w_1_0 := cellAt hb2 (w.heap.size + 1) (by go_size) 0; simp [go_sem, *] at k2_w_1_0)); (try (have k2_w_1_1 := cellAt hb2 (w.heap.size + 1) (by go_size) 1; simp [go_sem, *] at k2_w_1_1)); (try (have f2_w_1 := frozAt hb2 (w.heap.size + 1) (by go_size); simp [go_sem, *] at f2_w_1)); (try have l2_w_1 : w.heap.size + 1 < w2.heap.size := by omega); (try (have k2_w_2_0 := cellAt hb2 (w.heap.size + 1 + 1) (by go_size) 0; simp [go_sem, *] at k2_w_2_0)); (try (have k2_w_2_1 := cellAt hb2 (w.heap.size + 1 + 1) (by go_size) 1; simp [go_sem, *] at k2_w_2_1)); (try (have f2_w_2 := frozAt hb2 (w.heap.size + 1 + 1) (by go_size); simp [go_sem, *] at f2_w_2)); (try have l2_w_2 : w.heap.size + 1 + 1 < w2.heap.size := by omega); (try (have k2_w_3_0 := cellAt hb2 (w.heap.size + 1 + 1 + 1) (by go_size) 0; simp [go_sem, *] at k2_w_3_0)); (try (have k2_w_3_1 := cellAt hb2 (w.heap.size + 1 + 1 + 1) (by go_size) 1; simp [go_sem, *] at k2_w_3_1)); (try (have f2_w_3 := frozAt hb2 (w.heap.size + 1 + 1 + 1) (by go_size); simp [go_sem, *] at f2_w_3)); (try have l2_w_3 : w.heap.size + 1 + 1 + 1 < w2.heap.size := by omega); (try (have k2_w1_0_0 := cellAt hb2 (w1.heap.size) (by go_size) 0; simp [go_sem, *] at k2_w1_0_0)); (try (have k2_w1_0_1 := cellAt hb2 (w1.heap.size) (by go_size) 1; simp [go_sem, *] at k2_w1_0_1)); (try (have f2_w1_0 := frozAt hb2 (w1.heap.size) (by go_size); simp [go_sem, *] at f2_w1_0)); (try have l2_w1_0 : w1.heap.size < w2.heap.size := by omega); (try clear k1_w_0_0); (try clear k1_w_0_1); (try clear f1_w_0); (try clear l1_w_0); (try clear k1_w_1_0); (try clear k1_w_1_1); (try clear f1_w_1); (try clear l1_w_1); (try clear k1_w_2_0); (try clear k1_w_2_1); (try clear f1_w_2); (try clear l1_w_2); (try clear k1_w_3_0); (try clear k1_w_3_1); (try clear f1_w_3); (try clear l1_w_3)))
    refine bodyPost_ret (v := _) (by simp [results, Try.results58, go_sem, *]) rfl ⟨rfl, ?_⟩
    repeat' first | (with_reducible exact Below.refl _ _) | (with_reducible assumption) | (with_reducible refine below_drewN ?_ _) | (with_reducible refine Below.drew ?_) | (with_reducible refine Below.alloc ?_ ?_ _) | (with_reducible refine Below.setCell ?_ ?_ _) | (with_reducible refine below_via (by assumption) ?_ ?_) | go_size
  · cases yo
    · simp only [Bool.and_false, Bool.false_eq_true, if_false]
      have tok1 : True := trivial
      have tok2 : True := trivial
      go_enter Try.func58, Try.ntmps58
      go_wp2_with (first | (have _t := tok1; go_at_call 65; (with_reducible refine ((C1 _).out).mono ?_); rintro e w1 ⟨rfl, hb1⟩; clear tok1 _t; have hz1 := hb1.size; (try simp only [World.size_alloc, World.size_setCell, World.size_drew, World.size_drewN'] at hz1); (try (have k1_w_0_0 := cellAt hb1 (w.heap.size) (by go_size) 0; simp [go_sem, *] at k1_w_0_0)); (try (have k1_w_0_1 := cellAt hb1 (w.heap.size) (by go_size) 1; simp [go_sem, *] at k1_w_0_1)); (try (have f1_w_0 := frozAt hb1 (w.heap.size) (by go_size); simp [go_sem, *] at f1_w_0)); (try have l1_w_0 : w.heap.size < w1.heap.size := by omega); (try (have k1_w_1_0 := cellAt hb1 (w.heap.size + 1) (by go_size) 0; simp [go_sem, *] at k1_w_1_0)); (try (have k1_w_1_1 := cellAt hb1 (w.heap.size + 1) (by go_size) 1; simp [go_sem, *] at k1_w_1_1)); (try (have f1_w_1 := frozAt hb1 (w.heap.size + 1) (by go_size); simp [go_sem, *] at f1_w_1)); (try have l1_w_1 : w.heap.size + 1 < w1.heap.size := by omega); (try (have k1_w_2_0 := cellAt hb1 (w.heap.size + 1 + 1) (by go_size) 0; simp [go_sem, *] at k1_w_2_0)); (try (have k1_w_2_1 := cellAt hb1 (w.heap.size + 1 + 1) (by go_size) 1; simp [go_sem, *] at k1_w_2_1)); (try (have f1_w_2 := frozAt hb1 (w.heap.size + 1 + 1) (by go_size); simp [go_sem, *] at f1_w_2)); (try have l1_w_2 : w.heap.size + 1 + 1 < w1.heap.size := by omega); (try (have k1_w_3_0 := cellAt hb1 (w.heap.size + 1 + 1 + 1) (by go_size) 0; simp [go_sem, *] at k1_w_3_0)); (try (have k1_w_3_1 := cellAt hb1 (w.heap.size + 1 + 1 + 1) (by go_size) 1; simp [go_sem, *] at k1_w_3_1)); (try (have f1_w_3 := frozAt hb1 (w.heap.size + 1 + 1 + 1) (by go_size); simp [go_sem, *] at f1_w_3)); (try have l1_w_3 : w.heap.size + 1 + 1 + 1 < w1.heap.size := by omega)) | (have _t := tok2; go_at_call 65; (with_reducible refine ((C2 _).out).mono ?_); rintro e w2 ⟨rfl, hb2⟩; clear tok2 _t; have hz2 := hb2.size; (try simp only [World.size_alloc, World.size_setCell, World.size_drew, World.size_drewN'] at hz2); (try (have k2_w_0_0 := cellAt hb2 (w.heap.size) (by go_size) 0; simp [go_sem, *] at k2_w_0_0)); (try (have k2_w_0_1 := cellAt hb2 (w.heap.size) (by go_size) 1; simp [go_sem, *] at k2_w_0_1)); (try (have f2_w_0 := frozAt hb2 (w.heap.size) (by go_size); simp [go_sem, *] at f2_w_0)); (try have l2_w_0 : w.heap.size < w2.heap.size := by omega); (try (have k2_w_1_0 := cellAt hb2 (w.heap.size + 1) (by go_size) 0; simp [go_sem, *] at k2_w_1_0)); (try (have k2_w_1_1 := cellAt hb2 (w.heap.size + 1) (by go_size) 1; simp [go_sem, *] at k2_w_1_1)); (try (have f2_w_1 := frozAt hb2 (w.heap.size + 1) (by go_size); simp [go_sem, *] at f2_w_1)); (try have l2_w_1 : w.heap.size + 1 < w2.heap.size := by omega); (try (have k2_w_2_0 := cellAt hb2 (w.heap.size + 1 + 1) (by go_size) 0; simp [go_sem, *] at k2_w_2_0)); (try (have k2_w_2_1 := cellAt hb2 (w.heap.size + 1 + 1) (by go_size) 1; simp [go_sem, *] at k2_w_2_1)); (try (have f2_w_2 := frozAt hb2 (w.heap.size + 1 + 1) (by go_size); simp [go_sem, *] at f2_w_2)); (try have l2_w_2 : w.heap.size + 1 + 1 < w2.heap.size := by omega); (try (have k2_w_3_0 := cellAt hb2 (w.heap.size + 1 + 1 + 1) (by go_size) 0; simp [go_sem, *] at k2_w_3_0)); (try (have k2_w_3_1 := cellAt hb2 (w.heap.size + 1 + 1 + 1) (by go_size) 1; simp [go_sem, *] at k2_w_3_1)); (try (have f2_w_3 := frozAt hb2 (w.heap.size + 1 + 1 + 1) (by go_size); simp [go_sem, *] at f2_w_3)); (try have l2_w_3 : w.heap.size + 1 + 1 + 1 < w2.heap.size := by omega); (try (have k2_w1_0_0 := cellAt hb2 (w1.heap.size) (by go_size) 0; simp [go_sem, *] at k2_w1_0_0)); (try (have k2_w1_0_1 := cellAt hb2 (w1.heap.size) (by go_size) 1; simp [go_sem, *] at k2_w1_0_1)); (try (have f2_w1_0 := frozAt hb2 (w1.heap.size) (by go_size); simp [go_sem, *] at f2_w1_0)); (try have l2_w1_0 : w1.heap.size < w2.heap.size := by omega); (try clear k1_w_0_0); (try clear k1_w_0_1); (try clear f1_w_0); (try clear l1_w_0); (try clear k1_w_1_0); (try clear k1_w_1_1); (try clear f1_w_1); (try clear l1_w_1); (try clear k1_w_2_0); (try clear k1_w_2_1); (try clear f1_w_2); (try clear l1_w_2); (try clear k1_w_3_0); (try clear k1_w_3_1); (try clear f1_w_3); (try clear l1_w_3)))
      refine bodyPost_ret (v := _) (by simp [results, Try.results58, go_sem, *]) rfl ⟨rfl, ?_⟩
      repeat' first | (with_reducible exact Below.refl _ _) | (with_reducible assumption) | (with_reducible refine below_drewN ?_ _) | (with_reducible refine Below.drew ?_) | (with_reducible refine Below.alloc ?_ ?_ _) | (with_reducible refine Below.setCell ?_ ?_ _) | (with_reducible refine below_via (by assumption) ?_ ?_) | go_size
    · simp only [Bool.and_true, if_true]
      have tok1 : True := trivial
      have tok2 : True := trivial
      go_enter Try.func58, Try.ntmps58
      go_wp2_with (first | (have _t := tok1; go_at_call 65; (with_reducible refine ((C1 _).out).mono ?_); rintro e w1 ⟨rfl, hb1⟩; clear tok1 _t; have hz1 := hb1.size; (try simp only [World.size_alloc, World.size_setCell, World.size_drew, World.size_drewN'] at hz1); (try (have k1_w_0_0 := cellAt hb1 (w.heap.size) (by go_size) 0; simp [go_sem, *] at k1_w_0_0)); (try (have k1_w_0_1 := cellAt hb1 (w.heap.size) (by go_size) 1; simp [go_sem, *] at k1_w_0_1)); (try (have f1_w_0 := frozAt hb1 (w.heap.size) (by go_size); simp [go_sem, *] at f1_w_0)); (try have l1_w_0 : w.heap.size < w1.heap.size := by omega); (try (have k1_w_1_0 := cellAt hb1 (w.heap.size + 1) (by go_size) 0; simp [go_sem, *] at k1_w_1_0)); (try (have k1_w_1_1 := cellAt hb1 (w.heap.size + 1) (by go_size) 1; simp [go_sem, *] at k1_w_1_1)); (try (have f1_w_1 := frozAt hb1 (w.heap.size + 1) (by go_size); simp [go_sem, *] at f1_w_1)); (try have l1_w_1 : w.heap.size + 1 < w1.heap.size := by omega); (try (have k1_w_2_0 := cellAt hb1 (w.heap.size + 1 + 1) (by go_size) 0; simp [go_sem, *] at k1_w_2_0)); (try (have k1_w_2_1 := cellAt hb1 (w.heap.size + 1 + 1) (by go_size) 1; simp [go_sem, *] at k1_w_2_1)); (try (have f1_w_2 := frozAt hb1 (w.heap.size + 1 + 1) (by go_size); simp [go_sem, *] at f1_w_2)); (try have l1_w_2 : w.heap.size + 1 + 1 < w1.heap.size := by omega); (try (have k1_w_3_0 := cellAt hb1 (w.heap.size + 1 + 1 + 1) (by go_size) 0; simp [go_sem, *] at k1_w_3_0)); (try (have k1_w_3_1 := cellAt hb1 (w.heap.size + 1 + 1 + 1) (by go_size) 1; simp [go_sem, *] at k1_w_3_1)); (try (have f1_w_3 := frozAt hb1 (w.heap.size + 1 + 1 + 1) (by go_size); simp [go_sem, *] at f1_w_3)); (try have l1_w_3 : w.heap.size + 1 + 1 + 1 < w1.heap.size := by omega)) | (have _t := tok2; go_at_call 65; (with_reducible refine ((C2 _).out).mono ?_); rintro e w2 ⟨rfl, hb2⟩; clear tok2 _t; have hz2 := hb2.size; (try simp only [World.size_alloc, World.size_setCell, World.size_drew, World.size_drewN'] at hz2); (try (have k2_w_0_0 := cellAt hb2 (w.heap.size) (by go_size) 0; simp [go_sem, *] at k2_w_0_0)); (try (have k2_w_0_1 := cellAt hb2 (w.heap.size) (by go_size) 1; simp [go_sem, *] at k2_w_0_1)); (try (have f2_w_0 := frozAt hb2 (w.heap.size) (by go_size); simp [go_sem, *] at f2_w_0)); (try have l2_w_0 : w.heap.size < w2.heap.size := by omega); (try (have k2_w_1_0 := cellAt hb2 (w.heap.size + 1) (by go_size) 0; simp [go_sem, *] at k2_w_1_0)); (try (have k2_w_1_1 := cellAt hb2 (w.heap.size + 1) (by go_size) 1; simp [go_sem, *] at k2_w_1_1)); (try (have f2_w_1 := frozAt hb2 (w.heap.size + 1) (by go_size); simp [go_sem, *] at f2_w_1)); (try have l2_w_1 : w.heap.size + 1 < w2.heap.size := by omega); (try (have k2_w_2_0 := cellAt hb2 (w.heap.size + 1 + 1) (by go_size) 0; simp [go_sem, *] at k2_w_2_0)); (try (have k2_w_2_1 := cellAt hb2 (w.heap.size + 1 + 1) (by go_size) 1; simp [go_sem, *] at k2_w_2_1)); (try (have f2_w_2 := frozAt hb2 (w.heap.size + 1 + 1) (by go_size); simp [go_sem, *] at f2_w_2)); (try have l2_w_2 : w.heap.size + 1 + 1 < w2.heap.size := by omega); (try (have k2_w_3_0 := cellAt hb2 (w.heap.size + 1 + 1 + 1) (by go_size) 0; simp [go_sem, *] at k2_w_3_0)); (try (have k2_w_3_1 := cellAt hb2 (w.heap.size + 1 + 1 + 1) (by go_size) 1; simp [go_sem, *] at k2_w_3_1)); (try (have f2_w_3 := frozAt hb2 (w.heap.size + 1 + 1 + 1) (by go_size); simp [go_sem, *] at f2_w_3)); (try have l2_w_3 : w.heap.size + 1 + 1 + 1 < w2.heap.size := by omega); (try (have k2_w1_0_0 := cellAt hb2 (w1.heap.size) (by go_size) 0; simp [go_sem, *] at k2_w1_0_0)); (try (have k2_w1_0_1 := cellAt hb2 (w1.heap.size) (by go_size) 1; simp [go_sem, *] at k2_w1_0_1)); (try (have f2_w1_0 := frozAt hb2 (w1.heap.size) (by go_size); simp [go_sem, *] at f2_w1_0)); (try have l2_w1_0 : w1.heap.size < w2.heap.size := by omega); (try clear k1_w_0_0); (try clear k1_w_0_1); (try clear f1_w_0); (try clear l1_w_0); (try clear k1_w_1_0); (try clear k1_w_1_1); (try clear f1_w_1); (try clear l1_w_1); (try clear k1_w_2_0); (try clear k1_w_2_1); (try clear f1_w_2); (try clear l1_w_2); (try clear k1_w_3_0); (try clear k1_w_3_1); (try clear f1_w_3); (try clear l1_w_3)))
      go_region
      all_goals
        go_wp2
        refine bodyPost_ret (v := _) (by simp [results, Try.results58, go_sem, *]) rfl ⟨rfl, ?_⟩
        repeat' first | (with_reducible exact Below.refl _ _) | (with_reducible assumption) | (with_reducible refine below_drewN ?_ _) | (with_reducible refine Below.drew ?_) | (with_reducible refine Below.alloc ?_ ?_ _) | (with_reducible refine Below.setCell ?_ ?_ _) | (with_reducible refine below_via (by assumption) ?_ ?_) | go_size
theorem tcDual_any (a b : Int) (w : World) (ha : -300 ≤ a ∧ a ≤ 300) (hb : -300 ≤ b ∧ b ≤ 300) :
    Calls Try.prog 64 #[.agg #[.int .i64 a, .int .i64 b]] w fun e w' => e = .returned (.tuple #[.int .i64 (-2 * a), .int .i64 (a * a - 4 * b)]) ∧ Below w.heap.size w w' := by
  have m := mul_bd (a := a) (b := a) (A := 300) (B := 300) (by omega) (by omega)
  go_enter Try.func64, Try.ntmps64
  go_wp2_with fail
  go_quiet (fail)
  go_wp2_with fail
  go_ret2
  refine ⟨rfl, ?_⟩
  repeat' first | (with_reducible exact Below.refl _ _) | (with_reducible assumption) | (with_reducible refine below_drewN ?_ _) | (with_reducible refine Below.drew ?_) | (with_reducible refine Below.alloc ?_ ?_ _) | (with_reducible refine Below.setCell ?_ ?_ _) | (with_reducible refine below_via (by assumption) ?_ ?_) | go_size
theorem side_any (a b : Int) (w : World) (ha : -300 ≤ a ∧ a ≤ 300) (hb : -300 ≤ b ∧ b ≤ 300) :
    Calls Try.prog 66 #[.agg #[.int .i64 a, .int .i64 b], .bool true] w fun e w' => e = .returned (.tuple #[.int .i64 (-2 * a), .int .i64 (a * a - 4 * b)]) ∧ Below w.heap.size w w' := by
  have m := mul_bd (a := a) (b := a) (A := 300) (B := 300) (by omega) (by omega)
  go_enter Try.func66, Try.ntmps66
  go_wp2_with fail
  go_quiet (fail)
  go_wp2_with fail
  go_ret2
  refine ⟨rfl, ?_⟩
  repeat' first | (with_reducible exact Below.refl _ _) | (with_reducible assumption) | (with_reducible refine below_drewN ?_ _) | (with_reducible refine Below.drew ?_) | (with_reducible refine Below.alloc ?_ ?_ _) | (with_reducible refine Below.setCell ?_ ?_ _) | (with_reducible refine below_via (by assumption) ?_ ?_) | go_size
end Go.Proofs.Ytnkdgcjegjccbaa
