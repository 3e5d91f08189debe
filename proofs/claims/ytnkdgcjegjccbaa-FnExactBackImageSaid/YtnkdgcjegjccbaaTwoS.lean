/- Points of two-curves: validity on both sides, and the reference's reckoning of the equation. -/
import Derived.Test.YtnkdgcjegjccbaaTwo3
namespace Go.Proofs.Ytnkdgcjegjccbaa
open Go.RowKit
set_option linter.unusedVariables false
set_option maxHeartbeats 8000000
set_option maxRecDepth 20000
set_option linter.unusedSimpArgs false
def tcB (a b : Int) : Bool := inB a (-300) 300 && (inB b (-300) 300 && (decide (b ≠ 0) && decide (a * a ≠ 4 * b)))
theorem tcB_cases (a b : Int) : (inB a (-300) 300 = false ∧ tcB a b = false) ∨ (inB a (-300) 300 = true ∧ ((inB b (-300) 300 = false ∧ tcB a b = false) ∨ (inB b (-300) 300 = true ∧ ((b = 0 ∧ tcB a b = false) ∨ (b ≠ 0 ∧ tcB a b = decide (a * a ≠ 4 * b)))))) := by
  cases h1 : inB a (-300) 300
  · left; simp [tcB, h1]
  · right; refine ⟨rfl, ?_⟩
    cases h2 : inB b (-300) 300
    · left; simp [tcB, h1, h2]
    · right; refine ⟨rfl, ?_⟩
      by_cases h3 : b = 0
      · left; simp [tcB, h1, h2, h3]
      · right; exact ⟨h3, by simp [tcB, h1, h2, h3]⟩
theorem tcB_bd {a b : Int} (h : tcB a b = true) : (-300 ≤ a ∧ a ≤ 300) ∧ (-300 ≤ b ∧ b ≤ 300) ∧ b ≠ 0 ∧ a * a ≠ 4 * b := by
  simp [tcB, inB] at h; omega
theorem tcGood_any (a b : Int) (w : World) : Calls Try.prog 52 #[.agg #[.int .i64 a, .int .i64 b]] w fun e w' => e = .returned (.bool (tcB a b)) ∧ Below w.heap.size w w' := by
  rcases tcB_cases a b with ⟨h1, h⟩ | ⟨h1, ⟨h2, h⟩ | ⟨h2, ⟨rfl, h⟩ | ⟨h3, h⟩⟩⟩
  all_goals
    rw [h]
    clear h
    try (have b1 := inB_iff.1 h1)
    try (have b2 := inB_iff.1 h2)
    try (have m := mul_bd (a := a) (b := a) (A := 300) (B := 300) (by omega) (by omega))
    go_enter Try.func52, Try.ntmps52
    go_wp2_with (first | (go_at_call 44; refine (l1In_any _ _ _ _).mono ?_; rintro e w' ⟨rfl, rfl⟩) | (go_at_call 49; refine (inside_any _ _ _ _).mono ?_; rintro e w' ⟨rfl, rfl⟩))
    go_ret
    refine ⟨ret_bool (by first | rfl | (rw [Bool.eq_iff_iff]; simp [h3])), ?_⟩
    repeat' first | (with_reducible exact Below.refl _ _) | (with_reducible assumption) | (with_reducible refine below_drewN ?_ _) | (with_reducible refine Below.drew ?_) | (with_reducible refine Below.alloc ?_ ?_ _) | (with_reducible refine Below.setCell ?_ ?_ _) | (with_reducible refine below_via (by assumption) ?_ ?_) | go_size
theorem isTwoCurve_any (a b : Int) (w : World) : Calls Try.prog 55 #[.agg #[.int .i64 a, .int .i64 b]] w fun e w' => e = .returned (.bool (tcB a b)) ∧ Below w.heap.size w w' := by
  rcases tcB_cases a b with ⟨h1, h⟩ | ⟨h1, ⟨h2, h⟩ | ⟨h2, ⟨rfl, h⟩ | ⟨h3, h⟩⟩⟩
  all_goals
    rw [h]
    clear h
    try (have b1 := inB_iff.1 h1)
    try (have b2 := inB_iff.1 h2)
    try (have m := mul_bd (a := a) (b := a) (A := 300) (B := 300) (by omega) (by omega))
    go_enter Try.func55, Try.ntmps55
    go_wp2_with (first | (go_at_call 44; refine (l1In_any _ _ _ _).mono ?_; rintro e w' ⟨rfl, rfl⟩) | (go_at_call 49; refine (inside_any _ _ _ _).mono ?_; rintro e w' ⟨rfl, rfl⟩))
    go_ret
    refine ⟨ret_bool (by first | rfl | (rw [Bool.eq_iff_iff]; simp [h3])), ?_⟩
    repeat' first | (with_reducible exact Below.refl _ _) | (with_reducible assumption) | (with_reducible refine below_drewN ?_ _) | (with_reducible refine Below.drew ?_) | (with_reducible refine Below.alloc ?_ ?_ _) | (with_reducible refine Below.setCell ?_ ?_ _) | (with_reducible refine below_via (by assumption) ?_ ?_) | go_size
/-! ### what the reference reckons -/
def onS (a b nx dx ny dy : Int) : Bool × Bool :=
  let l := prF ny dy ny dy
  let s := suF nx dx a 1
  if (l.2.2 && s.2.2) = true then
    let t := prF s.1 s.2.1 nx dx
    if t.2.2 = true then
      let u := suF t.1 t.2.1 b 1
      if u.2.2 = true then
        let r := prF nx dx u.1 u.2.1
        (r.2.2 && (l.1 == r.1 && l.2.1 == r.2.1), r.2.2)
      else (false, false)
    else (false, false)
  else (false, false)
theorem stF {v : Bool} {f : Int × Int × Bool} (hv : v = true) (hf : f.2.2 = true) : stN v f = f.1 ∧ stD v f = f.2.1 := by simp [stN, stD, hv, hf]
theorem on_eq (a b nx dx ny dy : Int) (ha : -1000000000 ≤ a ∧ a ≤ 1000000000) (hb : -1000000000 ≤ b ∧ b ≤ 1000000000) : onT a b nx dx ny dy = onS a b nx dx ny dy := by
  unfold onT onS
  simp only [mkF_whole ha.1 ha.2, mkF_whole hb.1 hb.2]
  cases hl : (prF ny dy ny dy).2.2
  · simp [stN, stD]
  · cases hs : (suF nx dx a 1).2.2
    · simp [stN, stD, hs]
    · simp only [stN, stD, Bool.true_and, Bool.and_true, hs, if_true]
      cases ht : (prF (suF nx dx a 1).1 (suF nx dx a 1).2.1 nx dx).2.2
      · simp
      · cases hu : (suF (prF (suF nx dx a 1).1 (suF nx dx a 1).2.1 nx dx).1 (prF (suF nx dx a 1).1 (suF nx dx a 1).2.1 nx dx).2.1 b 1).2.2
        · simp [hu]
        · simp only [Bool.true_and, Bool.and_true, hu, if_true]
          generalize prF nx dx _ _ = r
          cases r.2.2 <;> simp [hl]
theorem tcOn_any (a b nx dx ny dy : Int) (w : World) (ha : -1000000000 ≤ a ∧ a ≤ 1000000000) (hb : -1000000000 ≤ b ∧ b ≤ 1000000000) (hx : frB nx dx = true) (hy : frB ny dy = true) :
    Calls Try.prog 54 #[.int .i64 a, .int .i64 b, .agg #[.int .i64 nx, .int .i64 dx], .agg #[.int .i64 ny, .int .i64 dy]] w fun e w' =>
      e = .returned (.tuple #[.bool (onS a b nx dx ny dy).1, .bool (onS a b nx dx ny dy).2]) ∧ Below w.heap.size w w' := by
  have C1 := fun W : World => Lib.hid (frMul_any W hy hy)
  have C3 := fun W : World => Lib.hid (frAdd_any W hx (frB_one ha.1 ha.2))
  have fs : (suF nx dx a 1).2.2 = true → frB (suF nx dx a 1).1 (suF nx dx a 1).2.1 = true := mkF_frB
  unfold onS
  generalize prF ny dy ny dy = l at *
  generalize suF nx dx a 1 = s at *
  obtain ⟨ln, ld, lo⟩ := l
  obtain ⟨sn, sd, so⟩ := s
  dsimp only at *
  cases lo
  · simp only [Bool.false_and, Bool.false_eq_true, if_false]
    clear fs
    have tok1 : True := trivial
    have tok2 : True := trivial
    have tok3 : True := trivial
    have tok4 : True := trivial
    have tok5 : True := trivial
    have tok6 : True := trivial
    have tok7 : True := trivial
    go_enter Try.func54, Try.ntmps54
    go_wp2_with (first | (have _t := tok1; go_at_call 65; (with_reducible refine ((C1 _).out).mono ?_); rintro e w1 ⟨rfl, hb1⟩; clear tok1 _t; have hz1 := hb1.size; (try simp only [World.size_alloc, World.size_setCell, World.size_drew, World.size_drewN'] at hz1); (try (have k1_w_0_0 := cellAt hb1 (w.heap.size) (by go_size) 0; simp [go_sem, *] at k1_w_0_0)); (try (have k1_w_0_1 := cellAt hb1 (w.heap.size) (by go_size) 1; simp [go_sem, *] at k1_w_0_1)); (try (have f1_w_0 := frozAt hb1 (w.heap.size) (by go_size); simp [go_sem, *] at f1_w_0)); (try have l1_w_0 : w.heap.size < w1.heap.size := by omega); (try (have k1_w_1_0 := cellAt hb1 (w.heap.size + 1) (by go_size) 0; simp [go_sem, *] at k1_w_1_0)); (try (have k1_w_1_1 := cellAt hb1 (w.heap.size + 1) (by go_size) 1; simp [go_sem, *] at k1_w_1_1)); (try (have f1_w_1 := frozAt hb1 (w.heap.size + 1) (by go_size); simp [go_sem, *] at f1_w_1)); (try have l1_w_1 : w.heap.size + 1 < w1.heap.size := by omega)))
    refine wp_drawn_fill (n := 7) 12 30 30 #[.int .i64 0, .int .i64 0] (by kernel_rfl) (by kernel_rfl) (by kernel_rfl) ⟨_, rfl, rfl, rfl, fun _ _ => by simp [go_sem]⟩ ⟨_, rfl, rfl, rfl, rfl⟩ (by kernel_rfl) (by kernel_rfl) (by kernel_rfl) ?_
    apply Exists.intro
    refine ⟨?_, ?_⟩
    · intro W hW
      try (have kx_w_0_0 := fun x => xcell hW (w.heap.size) (by go_size) x 0; simp [go_sem, *] at kx_w_0_0)
      try (have kx_w_0_1 := fun x => xcell hW (w.heap.size) (by go_size) x 1; simp [go_sem, *] at kx_w_0_1)
      try (have kx_w_1_0 := fun x => xcell hW (w.heap.size + 1) (by go_size) x 0; simp [go_sem, *] at kx_w_1_0)
      try (have kx_w_1_1 := fun x => xcell hW (w.heap.size + 1) (by go_size) x 1; simp [go_sem, *] at kx_w_1_1)
      try (have kx_w1_0_0 := fun x => xcell hW (w1.heap.size) (by go_size) x 0; simp [go_sem, *] at kx_w1_0_0)
      try (have kx_w1_0_1 := fun x => xcell hW (w1.heap.size) (by go_size) x 1; simp [go_sem, *] at kx_w1_0_1)
      simp only [List.take_succ_cons, List.take_zero]
      repeat (go_big_quiet_step ((first | (go_at_call 96; exact draw_of _ (frInt_any _ _)) | (go_at_call 95; (with_reducible exact draw_of _ ((C3 _).out))))))
      exact wpQuiet_nil rfl
    refine ⟨_, rfl, rfl, by simp [Value.oneCell'], ?_⟩
    intro g2 w2 hb2 hg2 hk2
    try simp only [World.size_alloc, World.size_setCell, World.size_drew, World.size_drewN'] at hg2
    try have lg2_w_0 : w.heap.size < g2 := by omega
    try have lg2_w_1 : w.heap.size + 1 < g2 := by omega
    try have lg2_w1_0 : w1.heap.size < g2 := by omega
    simp only [List.drop_succ_cons, List.drop_zero, Act.put, List.setIfInBounds_toArray, List.set_cons_succ, List.set_cons_zero]
    have hz2 := hb2.size
    (try simp only [World.size_alloc, World.size_setCell, World.size_drew, World.size_drewN'] at hz2)
    (try (have k2_w_0_0 := cellAt hb2 (w.heap.size) (by go_size) 0; simp [go_sem, *] at k2_w_0_0))
    (try (have k2_w_0_1 := cellAt hb2 (w.heap.size) (by go_size) 1; simp [go_sem, *] at k2_w_0_1))
    (try (have f2_w_0 := frozAt hb2 (w.heap.size) (by go_size); simp [go_sem, *] at f2_w_0))
    (try have l2_w_0 : w.heap.size < w2.heap.size := by omega)
    (try (have k2_w_1_0 := cellAt hb2 (w.heap.size + 1) (by go_size) 0; simp [go_sem, *] at k2_w_1_0))
    (try (have k2_w_1_1 := cellAt hb2 (w.heap.size + 1) (by go_size) 1; simp [go_sem, *] at k2_w_1_1))
    (try (have f2_w_1 := frozAt hb2 (w.heap.size + 1) (by go_size); simp [go_sem, *] at f2_w_1))
    (try have l2_w_1 : w.heap.size + 1 < w2.heap.size := by omega)
    (try (have k2_w1_0_0 := cellAt hb2 (w1.heap.size) (by go_size) 0; simp [go_sem, *] at k2_w1_0_0))
    (try (have k2_w1_0_1 := cellAt hb2 (w1.heap.size) (by go_size) 1; simp [go_sem, *] at k2_w1_0_1))
    (try (have f2_w1_0 := frozAt hb2 (w1.heap.size) (by go_size); simp [go_sem, *] at f2_w1_0))
    (try have l2_w1_0 : w1.heap.size < w2.heap.size := by omega)
    (try clear k1_w_0_0)
    (try clear k1_w_0_1)
    (try clear f1_w_0)
    (try clear l1_w_0)
    (try clear k1_w_1_0)
    (try clear k1_w_1_1)
    (try clear f1_w_1)
    (try clear l1_w_1)
    have kg2 := blk_cell hk2
    have fg2 := blk_frozen hk2
    have lg2 := blk_lt hk2
    go_wp2
    go_ret2
    refine ⟨rfl, ?_⟩
    repeat' first | (with_reducible exact Below.refl _ _) | (with_reducible assumption) | (with_reducible refine below_drewN ?_ _) | (with_reducible refine Below.drew ?_) | (with_reducible refine Below.alloc ?_ ?_ _) | (with_reducible refine Below.setCell ?_ ?_ _) | (with_reducible refine below_via (by assumption) ?_ ?_) | go_size
  · cases so
    · simp only [Bool.and_false, Bool.false_eq_true, if_false]
      clear fs
      have tok1 : True := trivial
      have tok2 : True := trivial
      have tok3 : True := trivial
      have tok4 : True := trivial
      have tok5 : True := trivial
      have tok6 : True := trivial
      have tok7 : True := trivial
      go_enter Try.func54, Try.ntmps54
      go_wp2_with (first | (have _t := tok1; go_at_call 65; (with_reducible refine ((C1 _).out).mono ?_); rintro e w1 ⟨rfl, hb1⟩; clear tok1 _t; have hz1 := hb1.size; (try simp only [World.size_alloc, World.size_setCell, World.size_drew, World.size_drewN'] at hz1); (try (have k1_w_0_0 := cellAt hb1 (w.heap.size) (by go_size) 0; simp [go_sem, *] at k1_w_0_0)); (try (have k1_w_0_1 := cellAt hb1 (w.heap.size) (by go_size) 1; simp [go_sem, *] at k1_w_0_1)); (try (have f1_w_0 := frozAt hb1 (w.heap.size) (by go_size); simp [go_sem, *] at f1_w_0)); (try have l1_w_0 : w.heap.size < w1.heap.size := by omega); (try (have k1_w_1_0 := cellAt hb1 (w.heap.size + 1) (by go_size) 0; simp [go_sem, *] at k1_w_1_0)); (try (have k1_w_1_1 := cellAt hb1 (w.heap.size + 1) (by go_size) 1; simp [go_sem, *] at k1_w_1_1)); (try (have f1_w_1 := frozAt hb1 (w.heap.size + 1) (by go_size); simp [go_sem, *] at f1_w_1)); (try have l1_w_1 : w.heap.size + 1 < w1.heap.size := by omega)))
      refine wp_drawn_fill (n := 7) 12 30 30 #[.int .i64 0, .int .i64 0] (by kernel_rfl) (by kernel_rfl) (by kernel_rfl) ⟨_, rfl, rfl, rfl, fun _ _ => by simp [go_sem]⟩ ⟨_, rfl, rfl, rfl, rfl⟩ (by kernel_rfl) (by kernel_rfl) (by kernel_rfl) ?_
      apply Exists.intro
      refine ⟨?_, ?_⟩
      · intro W hW
        try (have kx_w_0_0 := fun x => xcell hW (w.heap.size) (by go_size) x 0; simp [go_sem, *] at kx_w_0_0)
        try (have kx_w_0_1 := fun x => xcell hW (w.heap.size) (by go_size) x 1; simp [go_sem, *] at kx_w_0_1)
        try (have kx_w_1_0 := fun x => xcell hW (w.heap.size + 1) (by go_size) x 0; simp [go_sem, *] at kx_w_1_0)
        try (have kx_w_1_1 := fun x => xcell hW (w.heap.size + 1) (by go_size) x 1; simp [go_sem, *] at kx_w_1_1)
        try (have kx_w1_0_0 := fun x => xcell hW (w1.heap.size) (by go_size) x 0; simp [go_sem, *] at kx_w1_0_0)
        try (have kx_w1_0_1 := fun x => xcell hW (w1.heap.size) (by go_size) x 1; simp [go_sem, *] at kx_w1_0_1)
        simp only [List.take_succ_cons, List.take_zero]
        repeat (go_big_quiet_step ((first | (go_at_call 96; exact draw_of _ (frInt_any _ _)) | (go_at_call 95; (with_reducible exact draw_of _ ((C3 _).out))))))
        exact wpQuiet_nil rfl
      refine ⟨_, rfl, rfl, by simp [Value.oneCell'], ?_⟩
      intro g2 w2 hb2 hg2 hk2
      try simp only [World.size_alloc, World.size_setCell, World.size_drew, World.size_drewN'] at hg2
      try have lg2_w_0 : w.heap.size < g2 := by omega
      try have lg2_w_1 : w.heap.size + 1 < g2 := by omega
      try have lg2_w1_0 : w1.heap.size < g2 := by omega
      simp only [List.drop_succ_cons, List.drop_zero, Act.put, List.setIfInBounds_toArray, List.set_cons_succ, List.set_cons_zero]
      have hz2 := hb2.size
      (try simp only [World.size_alloc, World.size_setCell, World.size_drew, World.size_drewN'] at hz2)
      (try (have k2_w_0_0 := cellAt hb2 (w.heap.size) (by go_size) 0; simp [go_sem, *] at k2_w_0_0))
      (try (have k2_w_0_1 := cellAt hb2 (w.heap.size) (by go_size) 1; simp [go_sem, *] at k2_w_0_1))
      (try (have f2_w_0 := frozAt hb2 (w.heap.size) (by go_size); simp [go_sem, *] at f2_w_0))
      (try have l2_w_0 : w.heap.size < w2.heap.size := by omega)
      (try (have k2_w_1_0 := cellAt hb2 (w.heap.size + 1) (by go_size) 0; simp [go_sem, *] at k2_w_1_0))
      (try (have k2_w_1_1 := cellAt hb2 (w.heap.size + 1) (by go_size) 1; simp [go_sem, *] at k2_w_1_1))
      (try (have f2_w_1 := frozAt hb2 (w.heap.size + 1) (by go_size); simp [go_sem, *] at f2_w_1))
      (try have l2_w_1 : w.heap.size + 1 < w2.heap.size := by omega)
      (try (have k2_w1_0_0 := cellAt hb2 (w1.heap.size) (by go_size) 0; simp [go_sem, *] at k2_w1_0_0))
      (try (have k2_w1_0_1 := cellAt hb2 (w1.heap.size) (by go_size) 1; simp [go_sem, *] at k2_w1_0_1))
      (try (have f2_w1_0 := frozAt hb2 (w1.heap.size) (by go_size); simp [go_sem, *] at f2_w1_0))
      (try have l2_w1_0 : w1.heap.size < w2.heap.size := by omega)
      (try clear k1_w_0_0)
      (try clear k1_w_0_1)
      (try clear f1_w_0)
      (try clear l1_w_0)
      (try clear k1_w_1_0)
      (try clear k1_w_1_1)
      (try clear f1_w_1)
      (try clear l1_w_1)
      have kg2 := blk_cell hk2
      have fg2 := blk_frozen hk2
      have lg2 := blk_lt hk2
      go_wp2
      go_ret2
      refine ⟨rfl, ?_⟩
      repeat' first | (with_reducible exact Below.refl _ _) | (with_reducible assumption) | (with_reducible refine below_drewN ?_ _) | (with_reducible refine Below.drew ?_) | (with_reducible refine Below.alloc ?_ ?_ _) | (with_reducible refine Below.setCell ?_ ?_ _) | (with_reducible refine below_via (by assumption) ?_ ?_) | go_size
    · simp only [Bool.and_true, if_true]
      have fs := fs rfl
      have C4 := fun W : World => Lib.hid (frMul_any W fs hx)
      have ft : (prF sn sd nx dx).2.2 = true → frB (prF sn sd nx dx).1 (prF sn sd nx dx).2.1 = true := mkF_frB
      generalize prF sn sd nx dx = t at *
      obtain ⟨tn, td, tq⟩ := t
      dsimp only at *
      cases tq
      · simp only [Bool.false_eq_true, if_false]
        clear ft
        have tok1 : True := trivial
        have tok2 : True := trivial
        have tok3 : True := trivial
        have tok4 : True := trivial
        have tok5 : True := trivial
        have tok6 : True := trivial
        have tok7 : True := trivial
        go_enter Try.func54, Try.ntmps54
        go_wp2_with (first | (have _t := tok1; go_at_call 65; (with_reducible refine ((C1 _).out).mono ?_); rintro e w1 ⟨rfl, hb1⟩; clear tok1 _t; have hz1 := hb1.size; (try simp only [World.size_alloc, World.size_setCell, World.size_drew, World.size_drewN'] at hz1); (try (have k1_w_0_0 := cellAt hb1 (w.heap.size) (by go_size) 0; simp [go_sem, *] at k1_w_0_0)); (try (have k1_w_0_1 := cellAt hb1 (w.heap.size) (by go_size) 1; simp [go_sem, *] at k1_w_0_1)); (try (have f1_w_0 := frozAt hb1 (w.heap.size) (by go_size); simp [go_sem, *] at f1_w_0)); (try have l1_w_0 : w.heap.size < w1.heap.size := by omega); (try (have k1_w_1_0 := cellAt hb1 (w.heap.size + 1) (by go_size) 0; simp [go_sem, *] at k1_w_1_0)); (try (have k1_w_1_1 := cellAt hb1 (w.heap.size + 1) (by go_size) 1; simp [go_sem, *] at k1_w_1_1)); (try (have f1_w_1 := frozAt hb1 (w.heap.size + 1) (by go_size); simp [go_sem, *] at f1_w_1)); (try have l1_w_1 : w.heap.size + 1 < w1.heap.size := by omega)))
        refine wp_drawn_fill (n := 7) 12 30 30 #[.int .i64 0, .int .i64 0] (by kernel_rfl) (by kernel_rfl) (by kernel_rfl) ⟨_, rfl, rfl, rfl, fun _ _ => by simp [go_sem]⟩ ⟨_, rfl, rfl, rfl, rfl⟩ (by kernel_rfl) (by kernel_rfl) (by kernel_rfl) ?_
        apply Exists.intro
        refine ⟨?_, ?_⟩
        · intro W hW
          try (have kx_w_0_0 := fun x => xcell hW (w.heap.size) (by go_size) x 0; simp [go_sem, *] at kx_w_0_0)
          try (have kx_w_0_1 := fun x => xcell hW (w.heap.size) (by go_size) x 1; simp [go_sem, *] at kx_w_0_1)
          try (have kx_w_1_0 := fun x => xcell hW (w.heap.size + 1) (by go_size) x 0; simp [go_sem, *] at kx_w_1_0)
          try (have kx_w_1_1 := fun x => xcell hW (w.heap.size + 1) (by go_size) x 1; simp [go_sem, *] at kx_w_1_1)
          try (have kx_w1_0_0 := fun x => xcell hW (w1.heap.size) (by go_size) x 0; simp [go_sem, *] at kx_w1_0_0)
          try (have kx_w1_0_1 := fun x => xcell hW (w1.heap.size) (by go_size) x 1; simp [go_sem, *] at kx_w1_0_1)
          simp only [List.take_succ_cons, List.take_zero]
          repeat (go_big_quiet_step ((first | (go_at_call 96; exact draw_of _ (frInt_any _ _)) | (go_at_call 95; (with_reducible exact draw_of _ ((C3 _).out))))))
          exact wpQuiet_nil rfl
        refine ⟨_, rfl, rfl, by simp [Value.oneCell'], ?_⟩
        intro g2 w2 hb2 hg2 hk2
        try simp only [World.size_alloc, World.size_setCell, World.size_drew, World.size_drewN'] at hg2
        try have lg2_w_0 : w.heap.size < g2 := by omega
        try have lg2_w_1 : w.heap.size + 1 < g2 := by omega
        try have lg2_w1_0 : w1.heap.size < g2 := by omega
        simp only [List.drop_succ_cons, List.drop_zero, Act.put, List.setIfInBounds_toArray, List.set_cons_succ, List.set_cons_zero]
        have hz2 := hb2.size
        (try simp only [World.size_alloc, World.size_setCell, World.size_drew, World.size_drewN'] at hz2)
        (try (have k2_w_0_0 := cellAt hb2 (w.heap.size) (by go_size) 0; simp [go_sem, *] at k2_w_0_0))
        (try (have k2_w_0_1 := cellAt hb2 (w.heap.size) (by go_size) 1; simp [go_sem, *] at k2_w_0_1))
        (try (have f2_w_0 := frozAt hb2 (w.heap.size) (by go_size); simp [go_sem, *] at f2_w_0))
        (try have l2_w_0 : w.heap.size < w2.heap.size := by omega)
        (try (have k2_w_1_0 := cellAt hb2 (w.heap.size + 1) (by go_size) 0; simp [go_sem, *] at k2_w_1_0))
        (try (have k2_w_1_1 := cellAt hb2 (w.heap.size + 1) (by go_size) 1; simp [go_sem, *] at k2_w_1_1))
        (try (have f2_w_1 := frozAt hb2 (w.heap.size + 1) (by go_size); simp [go_sem, *] at f2_w_1))
        (try have l2_w_1 : w.heap.size + 1 < w2.heap.size := by omega)
        (try (have k2_w1_0_0 := cellAt hb2 (w1.heap.size) (by go_size) 0; simp [go_sem, *] at k2_w1_0_0))
        (try (have k2_w1_0_1 := cellAt hb2 (w1.heap.size) (by go_size) 1; simp [go_sem, *] at k2_w1_0_1))
        (try (have f2_w1_0 := frozAt hb2 (w1.heap.size) (by go_size); simp [go_sem, *] at f2_w1_0))
        (try have l2_w1_0 : w1.heap.size < w2.heap.size := by omega)
        (try clear k1_w_0_0)
        (try clear k1_w_0_1)
        (try clear f1_w_0)
        (try clear l1_w_0)
        (try clear k1_w_1_0)
        (try clear k1_w_1_1)
        (try clear f1_w_1)
        (try clear l1_w_1)
        have kg2 := blk_cell hk2
        have fg2 := blk_frozen hk2
        have lg2 := blk_lt hk2
        go_wp2_with (first | (have _t := tok4; go_at_call 65; (with_reducible refine ((C4 _).out).mono ?_); rintro e w4 ⟨rfl, hb4⟩; clear tok4 _t; have hz4 := hb4.size; (try simp only [World.size_alloc, World.size_setCell, World.size_drew, World.size_drewN'] at hz4); (try (have k4_w_0_0 := cellAt hb4 (w.heap.size) (by go_size) 0; simp [go_sem, *] at k4_w_0_0)); (try (have k4_w_0_1 := cellAt hb4 (w.heap.size) (by go_size) 1; simp [go_sem, *] at k4_w_0_1)); (try (have f4_w_0 := frozAt hb4 (w.heap.size) (by go_size); simp [go_sem, *] at f4_w_0)); (try have l4_w_0 : w.heap.size < w4.heap.size := by omega); (try (have k4_w_1_0 := cellAt hb4 (w.heap.size + 1) (by go_size) 0; simp [go_sem, *] at k4_w_1_0)); (try (have k4_w_1_1 := cellAt hb4 (w.heap.size + 1) (by go_size) 1; simp [go_sem, *] at k4_w_1_1)); (try (have f4_w_1 := frozAt hb4 (w.heap.size + 1) (by go_size); simp [go_sem, *] at f4_w_1)); (try have l4_w_1 : w.heap.size + 1 < w4.heap.size := by omega); (try (have k4_w1_0_0 := cellAt hb4 (w1.heap.size) (by go_size) 0; simp [go_sem, *] at k4_w1_0_0)); (try (have k4_w1_0_1 := cellAt hb4 (w1.heap.size) (by go_size) 1; simp [go_sem, *] at k4_w1_0_1)); (try (have f4_w1_0 := frozAt hb4 (w1.heap.size) (by go_size); simp [go_sem, *] at f4_w1_0)); (try have l4_w1_0 : w1.heap.size < w4.heap.size := by omega); (try (have k4_g2_0 := cellAt hb4 (g2) (by go_size) 0; simp [go_sem, *] at k4_g2_0)); (try (have k4_g2_1 := cellAt hb4 (g2) (by go_size) 1; simp [go_sem, *] at k4_g2_1)); (try (have f4_g2 := frozAt hb4 (g2) (by go_size); simp [go_sem, *] at f4_g2)); (try have l4_g2 : g2 < w4.heap.size := by omega); (try clear k1_w_0_0); (try clear k1_w_0_1); (try clear f1_w_0); (try clear l1_w_0); (try clear k1_w_1_0); (try clear k1_w_1_1); (try clear f1_w_1); (try clear l1_w_1); (try clear k2_w_0_0); (try clear k2_w_0_1); (try clear f2_w_0); (try clear l2_w_0); (try clear k2_w_1_0); (try clear k2_w_1_1); (try clear f2_w_1); (try clear l2_w_1); (try clear k2_w1_0_0); (try clear k2_w1_0_1); (try clear f2_w1_0); (try clear l2_w1_0); (try clear k3_w_0_0); (try clear k3_w_0_1); (try clear f3_w_0); (try clear l3_w_0); (try clear k3_w_1_0); (try clear k3_w_1_1); (try clear f3_w_1); (try clear l3_w_1); (try clear k3_w1_0_0); (try clear k3_w1_0_1); (try clear f3_w1_0); (try clear l3_w1_0); (try clear k3_g2_0); (try clear k3_g2_1); (try clear f3_g2); (try clear l3_g2)))
        go_ret2
        refine ⟨rfl, ?_⟩
        repeat' first | (with_reducible exact Below.refl _ _) | (with_reducible assumption) | (with_reducible refine below_drewN ?_ _) | (with_reducible refine Below.drew ?_) | (with_reducible refine Below.alloc ?_ ?_ _) | (with_reducible refine Below.setCell ?_ ?_ _) | (with_reducible refine below_via (by assumption) ?_ ?_) | go_size
      · simp only [if_true]
        have ft := ft rfl
        have C5 := fun W : World => Lib.hid (frAdd_any W ft (frB_one hb.1 hb.2))
        have fu : (suF tn td b 1).2.2 = true → frB (suF tn td b 1).1 (suF tn td b 1).2.1 = true := mkF_frB
        generalize suF tn td b 1 = u at *
        obtain ⟨un, ud, uo⟩ := u
        dsimp only at *
        cases uo
        · simp only [Bool.false_eq_true, if_false]
          clear fu
          have tok1 : True := trivial
          have tok2 : True := trivial
          have tok3 : True := trivial
          have tok4 : True := trivial
          have tok5 : True := trivial
          have tok6 : True := trivial
          have tok7 : True := trivial
          go_enter Try.func54, Try.ntmps54
          go_wp2_with (first | (have _t := tok1; go_at_call 65; (with_reducible refine ((C1 _).out).mono ?_); rintro e w1 ⟨rfl, hb1⟩; clear tok1 _t; have hz1 := hb1.size; (try simp only [World.size_alloc, World.size_setCell, World.size_drew, World.size_drewN'] at hz1); (try (have k1_w_0_0 := cellAt hb1 (w.heap.size) (by go_size) 0; simp [go_sem, *] at k1_w_0_0)); (try (have k1_w_0_1 := cellAt hb1 (w.heap.size) (by go_size) 1; simp [go_sem, *] at k1_w_0_1)); (try (have f1_w_0 := frozAt hb1 (w.heap.size) (by go_size); simp [go_sem, *] at f1_w_0)); (try have l1_w_0 : w.heap.size < w1.heap.size := by omega); (try (have k1_w_1_0 := cellAt hb1 (w.heap.size + 1) (by go_size) 0; simp [go_sem, *] at k1_w_1_0)); (try (have k1_w_1_1 := cellAt hb1 (w.heap.size + 1) (by go_size) 1; simp [go_sem, *] at k1_w_1_1)); (try (have f1_w_1 := frozAt hb1 (w.heap.size + 1) (by go_size); simp [go_sem, *] at f1_w_1)); (try have l1_w_1 : w.heap.size + 1 < w1.heap.size := by omega)))
          refine wp_drawn_fill (n := 7) 12 30 30 #[.int .i64 0, .int .i64 0] (by kernel_rfl) (by kernel_rfl) (by kernel_rfl) ⟨_, rfl, rfl, rfl, fun _ _ => by simp [go_sem]⟩ ⟨_, rfl, rfl, rfl, rfl⟩ (by kernel_rfl) (by kernel_rfl) (by kernel_rfl) ?_
          apply Exists.intro
          refine ⟨?_, ?_⟩
          · intro W hW
            try (have kx_w_0_0 := fun x => xcell hW (w.heap.size) (by go_size) x 0; simp [go_sem, *] at kx_w_0_0)
            try (have kx_w_0_1 := fun x => xcell hW (w.heap.size) (by go_size) x 1; simp [go_sem, *] at kx_w_0_1)
            try (have kx_w_1_0 := fun x => xcell hW (w.heap.size + 1) (by go_size) x 0; simp [go_sem, *] at kx_w_1_0)
            try (have kx_w_1_1 := fun x => xcell hW (w.heap.size + 1) (by go_size) x 1; simp [go_sem, *] at kx_w_1_1)
            try (have kx_w1_0_0 := fun x => xcell hW (w1.heap.size) (by go_size) x 0; simp [go_sem, *] at kx_w1_0_0)
            try (have kx_w1_0_1 := fun x => xcell hW (w1.heap.size) (by go_size) x 1; simp [go_sem, *] at kx_w1_0_1)
            simp only [List.take_succ_cons, List.take_zero]
            repeat (go_big_quiet_step ((first | (go_at_call 96; exact draw_of _ (frInt_any _ _)) | (go_at_call 95; (with_reducible exact draw_of _ ((C3 _).out))))))
            exact wpQuiet_nil rfl
          refine ⟨_, rfl, rfl, by simp [Value.oneCell'], ?_⟩
          intro g2 w2 hb2 hg2 hk2
          try simp only [World.size_alloc, World.size_setCell, World.size_drew, World.size_drewN'] at hg2
          try have lg2_w_0 : w.heap.size < g2 := by omega
          try have lg2_w_1 : w.heap.size + 1 < g2 := by omega
          try have lg2_w1_0 : w1.heap.size < g2 := by omega
          simp only [List.drop_succ_cons, List.drop_zero, Act.put, List.setIfInBounds_toArray, List.set_cons_succ, List.set_cons_zero]
          have hz2 := hb2.size
          (try simp only [World.size_alloc, World.size_setCell, World.size_drew, World.size_drewN'] at hz2)
          (try (have k2_w_0_0 := cellAt hb2 (w.heap.size) (by go_size) 0; simp [go_sem, *] at k2_w_0_0))
          (try (have k2_w_0_1 := cellAt hb2 (w.heap.size) (by go_size) 1; simp [go_sem, *] at k2_w_0_1))
          (try (have f2_w_0 := frozAt hb2 (w.heap.size) (by go_size); simp [go_sem, *] at f2_w_0))
          (try have l2_w_0 : w.heap.size < w2.heap.size := by omega)
          (try (have k2_w_1_0 := cellAt hb2 (w.heap.size + 1) (by go_size) 0; simp [go_sem, *] at k2_w_1_0))
          (try (have k2_w_1_1 := cellAt hb2 (w.heap.size + 1) (by go_size) 1; simp [go_sem, *] at k2_w_1_1))
          (try (have f2_w_1 := frozAt hb2 (w.heap.size + 1) (by go_size); simp [go_sem, *] at f2_w_1))
          (try have l2_w_1 : w.heap.size + 1 < w2.heap.size := by omega)
          (try (have k2_w1_0_0 := cellAt hb2 (w1.heap.size) (by go_size) 0; simp [go_sem, *] at k2_w1_0_0))
          (try (have k2_w1_0_1 := cellAt hb2 (w1.heap.size) (by go_size) 1; simp [go_sem, *] at k2_w1_0_1))
          (try (have f2_w1_0 := frozAt hb2 (w1.heap.size) (by go_size); simp [go_sem, *] at f2_w1_0))
          (try have l2_w1_0 : w1.heap.size < w2.heap.size := by omega)
          (try clear k1_w_0_0)
          (try clear k1_w_0_1)
          (try clear f1_w_0)
          (try clear l1_w_0)
          (try clear k1_w_1_0)
          (try clear k1_w_1_1)
          (try clear f1_w_1)
          (try clear l1_w_1)
          have kg2 := blk_cell hk2
          have fg2 := blk_frozen hk2
          have lg2 := blk_lt hk2
          go_wp2_with (first | (have _t := tok4; go_at_call 65; (with_reducible refine ((C4 _).out).mono ?_); rintro e w4 ⟨rfl, hb4⟩; clear tok4 _t; have hz4 := hb4.size; (try simp only [World.size_alloc, World.size_setCell, World.size_drew, World.size_drewN'] at hz4); (try (have k4_w_0_0 := cellAt hb4 (w.heap.size) (by go_size) 0; simp [go_sem, *] at k4_w_0_0)); (try (have k4_w_0_1 := cellAt hb4 (w.heap.size) (by go_size) 1; simp [go_sem, *] at k4_w_0_1)); (try (have f4_w_0 := frozAt hb4 (w.heap.size) (by go_size); simp [go_sem, *] at f4_w_0)); (try have l4_w_0 : w.heap.size < w4.heap.size := by omega); (try (have k4_w_1_0 := cellAt hb4 (w.heap.size + 1) (by go_size) 0; simp [go_sem, *] at k4_w_1_0)); (try (have k4_w_1_1 := cellAt hb4 (w.heap.size + 1) (by go_size) 1; simp [go_sem, *] at k4_w_1_1)); (try (have f4_w_1 := frozAt hb4 (w.heap.size + 1) (by go_size); simp [go_sem, *] at f4_w_1)); (try have l4_w_1 : w.heap.size + 1 < w4.heap.size := by omega); (try (have k4_w1_0_0 := cellAt hb4 (w1.heap.size) (by go_size) 0; simp [go_sem, *] at k4_w1_0_0)); (try (have k4_w1_0_1 := cellAt hb4 (w1.heap.size) (by go_size) 1; simp [go_sem, *] at k4_w1_0_1)); (try (have f4_w1_0 := frozAt hb4 (w1.heap.size) (by go_size); simp [go_sem, *] at f4_w1_0)); (try have l4_w1_0 : w1.heap.size < w4.heap.size := by omega); (try (have k4_g2_0 := cellAt hb4 (g2) (by go_size) 0; simp [go_sem, *] at k4_g2_0)); (try (have k4_g2_1 := cellAt hb4 (g2) (by go_size) 1; simp [go_sem, *] at k4_g2_1)); (try (have f4_g2 := frozAt hb4 (g2) (by go_size); simp [go_sem, *] at f4_g2)); (try have l4_g2 : g2 < w4.heap.size := by omega); (try clear k1_w_0_0); (try clear k1_w_0_1); (try clear f1_w_0); (try clear l1_w_0); (try clear k1_w_1_0); (try clear k1_w_1_1); (try clear f1_w_1); (try clear l1_w_1); (try clear k2_w_0_0); (try clear k2_w_0_1); (try clear f2_w_0); (try clear l2_w_0); (try clear k2_w_1_0); (try clear k2_w_1_1); (try clear f2_w_1); (try clear l2_w_1); (try clear k2_w1_0_0); (try clear k2_w1_0_1); (try clear f2_w1_0); (try clear l2_w1_0); (try clear k3_w_0_0); (try clear k3_w_0_1); (try clear f3_w_0); (try clear l3_w_0); (try clear k3_w_1_0); (try clear k3_w_1_1); (try clear f3_w_1); (try clear l3_w_1); (try clear k3_w1_0_0); (try clear k3_w1_0_1); (try clear f3_w1_0); (try clear l3_w1_0); (try clear k3_g2_0); (try clear k3_g2_1); (try clear f3_g2); (try clear l3_g2)))
          go_region_held3 (fun w' => w'.cell? ⟨w4.heap.size, 0, none⟩ = some (.int .i64 tn) ∧ w'.cell? ⟨w4.heap.size, 1, none⟩ = some (.int .i64 td)) (first | go_keep | exact ⟨far2 (by assumption) (by omega), far2 (by assumption) (by omega)⟩) (first | (have _t := tok5; go_at_call 96; refine (frInt_any _ _).mono ?_; rintro e w5 ⟨rfl, hb5⟩; clear tok5 _t; have hz5 := hb5.size; (try simp only [World.size_alloc, World.size_setCell, World.size_drew, World.size_drewN'] at hz5); (try (have k5_w_0_0 := cellAt hb5 (w.heap.size) (by go_size) 0; simp [go_sem, *] at k5_w_0_0)); (try (have k5_w_0_1 := cellAt hb5 (w.heap.size) (by go_size) 1; simp [go_sem, *] at k5_w_0_1)); (try (have f5_w_0 := frozAt hb5 (w.heap.size) (by go_size); simp [go_sem, *] at f5_w_0)); (try have l5_w_0 : w.heap.size < w5.heap.size := by omega); (try (have k5_w_1_0 := cellAt hb5 (w.heap.size + 1) (by go_size) 0; simp [go_sem, *] at k5_w_1_0)); (try (have k5_w_1_1 := cellAt hb5 (w.heap.size + 1) (by go_size) 1; simp [go_sem, *] at k5_w_1_1)); (try (have f5_w_1 := frozAt hb5 (w.heap.size + 1) (by go_size); simp [go_sem, *] at f5_w_1)); (try have l5_w_1 : w.heap.size + 1 < w5.heap.size := by omega); (try (have k5_w1_0_0 := cellAt hb5 (w1.heap.size) (by go_size) 0; simp [go_sem, *] at k5_w1_0_0)); (try (have k5_w1_0_1 := cellAt hb5 (w1.heap.size) (by go_size) 1; simp [go_sem, *] at k5_w1_0_1)); (try (have f5_w1_0 := frozAt hb5 (w1.heap.size) (by go_size); simp [go_sem, *] at f5_w1_0)); (try have l5_w1_0 : w1.heap.size < w5.heap.size := by omega); (try (have k5_g2_0 := cellAt hb5 (g2) (by go_size) 0; simp [go_sem, *] at k5_g2_0)); (try (have k5_g2_1 := cellAt hb5 (g2) (by go_size) 1; simp [go_sem, *] at k5_g2_1)); (try (have f5_g2 := frozAt hb5 (g2) (by go_size); simp [go_sem, *] at f5_g2)); (try have l5_g2 : g2 < w5.heap.size := by omega); (try (have k5_w4_0_0 := cellAt hb5 (w4.heap.size) (by go_size) 0; simp [go_sem, *] at k5_w4_0_0)); (try (have k5_w4_0_1 := cellAt hb5 (w4.heap.size) (by go_size) 1; simp [go_sem, *] at k5_w4_0_1)); (try (have f5_w4_0 := frozAt hb5 (w4.heap.size) (by go_size); simp [go_sem, *] at f5_w4_0)); (try have l5_w4_0 : w4.heap.size < w5.heap.size := by omega); (try clear k1_w_0_0); (try clear k1_w_0_1); (try clear f1_w_0); (try clear l1_w_0); (try clear k1_w_1_0); (try clear k1_w_1_1); (try clear f1_w_1); (try clear l1_w_1); (try clear k2_w_0_0); (try clear k2_w_0_1); (try clear f2_w_0); (try clear l2_w_0); (try clear k2_w_1_0); (try clear k2_w_1_1); (try clear f2_w_1); (try clear l2_w_1); (try clear k2_w1_0_0); (try clear k2_w1_0_1); (try clear f2_w1_0); (try clear l2_w1_0); (try clear k3_w_0_0); (try clear k3_w_0_1); (try clear f3_w_0); (try clear l3_w_0); (try clear k3_w_1_0); (try clear k3_w_1_1); (try clear f3_w_1); (try clear l3_w_1); (try clear k3_w1_0_0); (try clear k3_w1_0_1); (try clear f3_w1_0); (try clear l3_w1_0); (try clear k3_g2_0); (try clear k3_g2_1); (try clear f3_g2); (try clear l3_g2); (try clear k4_w_0_0); (try clear k4_w_0_1); (try clear f4_w_0); (try clear l4_w_0); (try clear k4_w_1_0); (try clear k4_w_1_1); (try clear f4_w_1); (try clear l4_w_1); (try clear k4_w1_0_0); (try clear k4_w1_0_1); (try clear f4_w1_0); (try clear l4_w1_0); (try clear k4_g2_0); (try clear k4_g2_1); (try clear f4_g2); (try clear l4_g2)) | (have _t := tok6; go_at_call 95; (with_reducible refine ((C5 _).out).mono ?_); rintro e w6 ⟨rfl, hb6⟩; clear tok6 _t; have hz6 := hb6.size; (try simp only [World.size_alloc, World.size_setCell, World.size_drew, World.size_drewN'] at hz6); (try (have k6_w_0_0 := cellAt hb6 (w.heap.size) (by go_size) 0; simp [go_sem, *] at k6_w_0_0)); (try (have k6_w_0_1 := cellAt hb6 (w.heap.size) (by go_size) 1; simp [go_sem, *] at k6_w_0_1)); (try (have f6_w_0 := frozAt hb6 (w.heap.size) (by go_size); simp [go_sem, *] at f6_w_0)); (try have l6_w_0 : w.heap.size < w6.heap.size := by omega); (try (have k6_w_1_0 := cellAt hb6 (w.heap.size + 1) (by go_size) 0; simp [go_sem, *] at k6_w_1_0)); (try (have k6_w_1_1 := cellAt hb6 (w.heap.size + 1) (by go_size) 1; simp [go_sem, *] at k6_w_1_1)); (try (have f6_w_1 := frozAt hb6 (w.heap.size + 1) (by go_size); simp [go_sem, *] at f6_w_1)); (try have l6_w_1 : w.heap.size + 1 < w6.heap.size := by omega); (try (have k6_w1_0_0 := cellAt hb6 (w1.heap.size) (by go_size) 0; simp [go_sem, *] at k6_w1_0_0)); (try (have k6_w1_0_1 := cellAt hb6 (w1.heap.size) (by go_size) 1; simp [go_sem, *] at k6_w1_0_1)); (try (have f6_w1_0 := frozAt hb6 (w1.heap.size) (by go_size); simp [go_sem, *] at f6_w1_0)); (try have l6_w1_0 : w1.heap.size < w6.heap.size := by omega); (try (have k6_g2_0 := cellAt hb6 (g2) (by go_size) 0; simp [go_sem, *] at k6_g2_0)); (try (have k6_g2_1 := cellAt hb6 (g2) (by go_size) 1; simp [go_sem, *] at k6_g2_1)); (try (have f6_g2 := frozAt hb6 (g2) (by go_size); simp [go_sem, *] at f6_g2)); (try have l6_g2 : g2 < w6.heap.size := by omega); (try (have k6_w4_0_0 := cellAt hb6 (w4.heap.size) (by go_size) 0; simp [go_sem, *] at k6_w4_0_0)); (try (have k6_w4_0_1 := cellAt hb6 (w4.heap.size) (by go_size) 1; simp [go_sem, *] at k6_w4_0_1)); (try (have f6_w4_0 := frozAt hb6 (w4.heap.size) (by go_size); simp [go_sem, *] at f6_w4_0)); (try have l6_w4_0 : w4.heap.size < w6.heap.size := by omega); (try clear k1_w_0_0); (try clear k1_w_0_1); (try clear f1_w_0); (try clear l1_w_0); (try clear k1_w_1_0); (try clear k1_w_1_1); (try clear f1_w_1); (try clear l1_w_1); (try clear k2_w_0_0); (try clear k2_w_0_1); (try clear f2_w_0); (try clear l2_w_0); (try clear k2_w_1_0); (try clear k2_w_1_1); (try clear f2_w_1); (try clear l2_w_1); (try clear k2_w1_0_0); (try clear k2_w1_0_1); (try clear f2_w1_0); (try clear l2_w1_0); (try clear k3_w_0_0); (try clear k3_w_0_1); (try clear f3_w_0); (try clear l3_w_0); (try clear k3_w_1_0); (try clear k3_w_1_1); (try clear f3_w_1); (try clear l3_w_1); (try clear k3_w1_0_0); (try clear k3_w1_0_1); (try clear f3_w1_0); (try clear l3_w1_0); (try clear k3_g2_0); (try clear k3_g2_1); (try clear f3_g2); (try clear l3_g2); (try clear k4_w_0_0); (try clear k4_w_0_1); (try clear f4_w_0); (try clear l4_w_0); (try clear k4_w_1_0); (try clear k4_w_1_1); (try clear f4_w_1); (try clear l4_w_1); (try clear k4_w1_0_0); (try clear k4_w1_0_1); (try clear f4_w1_0); (try clear l4_w1_0); (try clear k4_g2_0); (try clear k4_g2_1); (try clear f4_g2); (try clear l4_g2); (try clear k5_w_0_0); (try clear k5_w_0_1); (try clear f5_w_0); (try clear l5_w_0); (try clear k5_w_1_0); (try clear k5_w_1_1); (try clear f5_w_1); (try clear l5_w_1); (try clear k5_w1_0_0); (try clear k5_w1_0_1); (try clear f5_w1_0); (try clear l5_w1_0); (try clear k5_g2_0); (try clear k5_g2_1); (try clear f5_g2); (try clear l5_g2); (try clear k5_w4_0_0); (try clear k5_w4_0_1); (try clear f5_w4_0); (try clear l5_w4_0)))
          all_goals
            go_wp2
            go_ret2
            refine ⟨rfl, ?_⟩
            repeat' first | (with_reducible exact Below.refl _ _) | (with_reducible assumption) | (with_reducible refine below_drewN ?_ _) | (with_reducible refine Below.drew ?_) | (with_reducible refine Below.alloc ?_ ?_ _) | (with_reducible refine Below.setCell ?_ ?_ _) | (with_reducible refine below_via (by assumption) ?_ ?_) | go_size
        · simp only [if_true]
          have fu := fu rfl
          have C6 := fun W : World => Lib.hid (frMul_any W hx fu)
          generalize prF nx dx un ud = r at *
          obtain ⟨rn, rd, ro⟩ := r
          dsimp only at *
          have heq := fun W : World => eqFr ln ld rn rd W
          cases ro
          all_goals
            have tok1 : True := trivial
            have tok2 : True := trivial
            have tok3 : True := trivial
            have tok4 : True := trivial
            have tok5 : True := trivial
            have tok6 : True := trivial
            have tok7 : True := trivial
            go_enter Try.func54, Try.ntmps54
            go_wp2_with (first | (have _t := tok1; go_at_call 65; (with_reducible refine ((C1 _).out).mono ?_); rintro e w1 ⟨rfl, hb1⟩; clear tok1 _t; have hz1 := hb1.size; (try simp only [World.size_alloc, World.size_setCell, World.size_drew, World.size_drewN'] at hz1); (try (have k1_w_0_0 := cellAt hb1 (w.heap.size) (by go_size) 0; simp [go_sem, *] at k1_w_0_0)); (try (have k1_w_0_1 := cellAt hb1 (w.heap.size) (by go_size) 1; simp [go_sem, *] at k1_w_0_1)); (try (have f1_w_0 := frozAt hb1 (w.heap.size) (by go_size); simp [go_sem, *] at f1_w_0)); (try have l1_w_0 : w.heap.size < w1.heap.size := by omega); (try (have k1_w_1_0 := cellAt hb1 (w.heap.size + 1) (by go_size) 0; simp [go_sem, *] at k1_w_1_0)); (try (have k1_w_1_1 := cellAt hb1 (w.heap.size + 1) (by go_size) 1; simp [go_sem, *] at k1_w_1_1)); (try (have f1_w_1 := frozAt hb1 (w.heap.size + 1) (by go_size); simp [go_sem, *] at f1_w_1)); (try have l1_w_1 : w.heap.size + 1 < w1.heap.size := by omega)))
            refine wp_drawn_fill (n := 7) 12 30 30 #[.int .i64 0, .int .i64 0] (by kernel_rfl) (by kernel_rfl) (by kernel_rfl) ⟨_, rfl, rfl, rfl, fun _ _ => by simp [go_sem]⟩ ⟨_, rfl, rfl, rfl, rfl⟩ (by kernel_rfl) (by kernel_rfl) (by kernel_rfl) ?_
            apply Exists.intro
            refine ⟨?_, ?_⟩
            · intro W hW
              try (have kx_w_0_0 := fun x => xcell hW (w.heap.size) (by go_size) x 0; simp [go_sem, *] at kx_w_0_0)
              try (have kx_w_0_1 := fun x => xcell hW (w.heap.size) (by go_size) x 1; simp [go_sem, *] at kx_w_0_1)
              try (have kx_w_1_0 := fun x => xcell hW (w.heap.size + 1) (by go_size) x 0; simp [go_sem, *] at kx_w_1_0)
              try (have kx_w_1_1 := fun x => xcell hW (w.heap.size + 1) (by go_size) x 1; simp [go_sem, *] at kx_w_1_1)
              try (have kx_w1_0_0 := fun x => xcell hW (w1.heap.size) (by go_size) x 0; simp [go_sem, *] at kx_w1_0_0)
              try (have kx_w1_0_1 := fun x => xcell hW (w1.heap.size) (by go_size) x 1; simp [go_sem, *] at kx_w1_0_1)
              simp only [List.take_succ_cons, List.take_zero]
              repeat (go_big_quiet_step ((first | (go_at_call 96; exact draw_of _ (frInt_any _ _)) | (go_at_call 95; (with_reducible exact draw_of _ ((C3 _).out))))))
              exact wpQuiet_nil rfl
            refine ⟨_, rfl, rfl, by simp [Value.oneCell'], ?_⟩
            intro g2 w2 hb2 hg2 hk2
            try simp only [World.size_alloc, World.size_setCell, World.size_drew, World.size_drewN'] at hg2
            try have lg2_w_0 : w.heap.size < g2 := by omega
            try have lg2_w_1 : w.heap.size + 1 < g2 := by omega
            try have lg2_w1_0 : w1.heap.size < g2 := by omega
            simp only [List.drop_succ_cons, List.drop_zero, Act.put, List.setIfInBounds_toArray, List.set_cons_succ, List.set_cons_zero]
            have hz2 := hb2.size
            (try simp only [World.size_alloc, World.size_setCell, World.size_drew, World.size_drewN'] at hz2)
            (try (have k2_w_0_0 := cellAt hb2 (w.heap.size) (by go_size) 0; simp [go_sem, *] at k2_w_0_0))
            (try (have k2_w_0_1 := cellAt hb2 (w.heap.size) (by go_size) 1; simp [go_sem, *] at k2_w_0_1))
            (try (have f2_w_0 := frozAt hb2 (w.heap.size) (by go_size); simp [go_sem, *] at f2_w_0))
            (try have l2_w_0 : w.heap.size < w2.heap.size := by omega)
            (try (have k2_w_1_0 := cellAt hb2 (w.heap.size + 1) (by go_size) 0; simp [go_sem, *] at k2_w_1_0))
            (try (have k2_w_1_1 := cellAt hb2 (w.heap.size + 1) (by go_size) 1; simp [go_sem, *] at k2_w_1_1))
            (try (have f2_w_1 := frozAt hb2 (w.heap.size + 1) (by go_size); simp [go_sem, *] at f2_w_1))
            (try have l2_w_1 : w.heap.size + 1 < w2.heap.size := by omega)
            (try (have k2_w1_0_0 := cellAt hb2 (w1.heap.size) (by go_size) 0; simp [go_sem, *] at k2_w1_0_0))
            (try (have k2_w1_0_1 := cellAt hb2 (w1.heap.size) (by go_size) 1; simp [go_sem, *] at k2_w1_0_1))
            (try (have f2_w1_0 := frozAt hb2 (w1.heap.size) (by go_size); simp [go_sem, *] at f2_w1_0))
            (try have l2_w1_0 : w1.heap.size < w2.heap.size := by omega)
            (try clear k1_w_0_0)
            (try clear k1_w_0_1)
            (try clear f1_w_0)
            (try clear l1_w_0)
            (try clear k1_w_1_0)
            (try clear k1_w_1_1)
            (try clear f1_w_1)
            (try clear l1_w_1)
            have kg2 := blk_cell hk2
            have fg2 := blk_frozen hk2
            have lg2 := blk_lt hk2
            go_wp2_with (first | (have _t := tok4; go_at_call 65; (with_reducible refine ((C4 _).out).mono ?_); rintro e w4 ⟨rfl, hb4⟩; clear tok4 _t; have hz4 := hb4.size; (try simp only [World.size_alloc, World.size_setCell, World.size_drew, World.size_drewN'] at hz4); (try (have k4_w_0_0 := cellAt hb4 (w.heap.size) (by go_size) 0; simp [go_sem, *] at k4_w_0_0)); (try (have k4_w_0_1 := cellAt hb4 (w.heap.size) (by go_size) 1; simp [go_sem, *] at k4_w_0_1)); (try (have f4_w_0 := frozAt hb4 (w.heap.size) (by go_size); simp [go_sem, *] at f4_w_0)); (try have l4_w_0 : w.heap.size < w4.heap.size := by omega); (try (have k4_w_1_0 := cellAt hb4 (w.heap.size + 1) (by go_size) 0; simp [go_sem, *] at k4_w_1_0)); (try (have k4_w_1_1 := cellAt hb4 (w.heap.size + 1) (by go_size) 1; simp [go_sem, *] at k4_w_1_1)); (try (have f4_w_1 := frozAt hb4 (w.heap.size + 1) (by go_size); simp [go_sem, *] at f4_w_1)); (try have l4_w_1 : w.heap.size + 1 < w4.heap.size := by omega); (try (have k4_w1_0_0 := cellAt hb4 (w1.heap.size) (by go_size) 0; simp [go_sem, *] at k4_w1_0_0)); (try (have k4_w1_0_1 := cellAt hb4 (w1.heap.size) (by go_size) 1; simp [go_sem, *] at k4_w1_0_1)); (try (have f4_w1_0 := frozAt hb4 (w1.heap.size) (by go_size); simp [go_sem, *] at f4_w1_0)); (try have l4_w1_0 : w1.heap.size < w4.heap.size := by omega); (try (have k4_g2_0 := cellAt hb4 (g2) (by go_size) 0; simp [go_sem, *] at k4_g2_0)); (try (have k4_g2_1 := cellAt hb4 (g2) (by go_size) 1; simp [go_sem, *] at k4_g2_1)); (try (have f4_g2 := frozAt hb4 (g2) (by go_size); simp [go_sem, *] at f4_g2)); (try have l4_g2 : g2 < w4.heap.size := by omega); (try clear k1_w_0_0); (try clear k1_w_0_1); (try clear f1_w_0); (try clear l1_w_0); (try clear k1_w_1_0); (try clear k1_w_1_1); (try clear f1_w_1); (try clear l1_w_1); (try clear k2_w_0_0); (try clear k2_w_0_1); (try clear f2_w_0); (try clear l2_w_0); (try clear k2_w_1_0); (try clear k2_w_1_1); (try clear f2_w_1); (try clear l2_w_1); (try clear k2_w1_0_0); (try clear k2_w1_0_1); (try clear f2_w1_0); (try clear l2_w1_0); (try clear k3_w_0_0); (try clear k3_w_0_1); (try clear f3_w_0); (try clear l3_w_0); (try clear k3_w_1_0); (try clear k3_w_1_1); (try clear f3_w_1); (try clear l3_w_1); (try clear k3_w1_0_0); (try clear k3_w1_0_1); (try clear f3_w1_0); (try clear l3_w1_0); (try clear k3_g2_0); (try clear k3_g2_1); (try clear f3_g2); (try clear l3_g2)))
            go_region_held3 (fun w' => w'.cell? ⟨w4.heap.size, 0, none⟩ = some (.int .i64 tn) ∧ w'.cell? ⟨w4.heap.size, 1, none⟩ = some (.int .i64 td)) (first | go_keep | exact ⟨far2 (by assumption) (by omega), far2 (by assumption) (by omega)⟩) (first | (have _t := tok5; go_at_call 96; refine (frInt_any _ _).mono ?_; rintro e w5 ⟨rfl, hb5⟩; clear tok5 _t; have hz5 := hb5.size; (try simp only [World.size_alloc, World.size_setCell, World.size_drew, World.size_drewN'] at hz5); (try (have k5_w_0_0 := cellAt hb5 (w.heap.size) (by go_size) 0; simp [go_sem, *] at k5_w_0_0)); (try (have k5_w_0_1 := cellAt hb5 (w.heap.size) (by go_size) 1; simp [go_sem, *] at k5_w_0_1)); (try (have f5_w_0 := frozAt hb5 (w.heap.size) (by go_size); simp [go_sem, *] at f5_w_0)); (try have l5_w_0 : w.heap.size < w5.heap.size := by omega); (try (have k5_w_1_0 := cellAt hb5 (w.heap.size + 1) (by go_size) 0; simp [go_sem, *] at k5_w_1_0)); (try (have k5_w_1_1 := cellAt hb5 (w.heap.size + 1) (by go_size) 1; simp [go_sem, *] at k5_w_1_1)); (try (have f5_w_1 := frozAt hb5 (w.heap.size + 1) (by go_size); simp [go_sem, *] at f5_w_1)); (try have l5_w_1 : w.heap.size + 1 < w5.heap.size := by omega); (try (have k5_w1_0_0 := cellAt hb5 (w1.heap.size) (by go_size) 0; simp [go_sem, *] at k5_w1_0_0)); (try (have k5_w1_0_1 := cellAt hb5 (w1.heap.size) (by go_size) 1; simp [go_sem, *] at k5_w1_0_1)); (try (have f5_w1_0 := frozAt hb5 (w1.heap.size) (by go_size); simp [go_sem, *] at f5_w1_0)); (try have l5_w1_0 : w1.heap.size < w5.heap.size := by omega); (try (have k5_g2_0 := cellAt hb5 (g2) (by go_size) 0; simp [go_sem, *] at k5_g2_0)); (try (have k5_g2_1 := cellAt hb5 (g2) (by go_size) 1; simp [go_sem, *] at k5_g2_1)); (try (have f5_g2 := frozAt hb5 (g2) (by go_size); simp [go_sem, *] at f5_g2)); (try have l5_g2 : g2 < w5.heap.size := by omega); (try (have k5_w4_0_0 := cellAt hb5 (w4.heap.size) (by go_size) 0; simp [go_sem, *] at k5_w4_0_0)); (try (have k5_w4_0_1 := cellAt hb5 (w4.heap.size) (by go_size) 1; simp [go_sem, *] at k5_w4_0_1)); (try (have f5_w4_0 := frozAt hb5 (w4.heap.size) (by go_size); simp [go_sem, *] at f5_w4_0)); (try have l5_w4_0 : w4.heap.size < w5.heap.size := by omega); (try clear k1_w_0_0); (try clear k1_w_0_1); (try clear f1_w_0); (try clear l1_w_0); (try clear k1_w_1_0); (try clear k1_w_1_1); (try clear f1_w_1); (try clear l1_w_1); (try clear k2_w_0_0); (try clear k2_w_0_1); (try clear f2_w_0); (try clear l2_w_0); (try clear k2_w_1_0); (try clear k2_w_1_1); (try clear f2_w_1); (try clear l2_w_1); (try clear k2_w1_0_0); (try clear k2_w1_0_1); (try clear f2_w1_0); (try clear l2_w1_0); (try clear k3_w_0_0); (try clear k3_w_0_1); (try clear f3_w_0); (try clear l3_w_0); (try clear k3_w_1_0); (try clear k3_w_1_1); (try clear f3_w_1); (try clear l3_w_1); (try clear k3_w1_0_0); (try clear k3_w1_0_1); (try clear f3_w1_0); (try clear l3_w1_0); (try clear k3_g2_0); (try clear k3_g2_1); (try clear f3_g2); (try clear l3_g2); (try clear k4_w_0_0); (try clear k4_w_0_1); (try clear f4_w_0); (try clear l4_w_0); (try clear k4_w_1_0); (try clear k4_w_1_1); (try clear f4_w_1); (try clear l4_w_1); (try clear k4_w1_0_0); (try clear k4_w1_0_1); (try clear f4_w1_0); (try clear l4_w1_0); (try clear k4_g2_0); (try clear k4_g2_1); (try clear f4_g2); (try clear l4_g2)) | (have _t := tok6; go_at_call 95; (with_reducible refine ((C5 _).out).mono ?_); rintro e w6 ⟨rfl, hb6⟩; clear tok6 _t; have hz6 := hb6.size; (try simp only [World.size_alloc, World.size_setCell, World.size_drew, World.size_drewN'] at hz6); (try (have k6_w_0_0 := cellAt hb6 (w.heap.size) (by go_size) 0; simp [go_sem, *] at k6_w_0_0)); (try (have k6_w_0_1 := cellAt hb6 (w.heap.size) (by go_size) 1; simp [go_sem, *] at k6_w_0_1)); (try (have f6_w_0 := frozAt hb6 (w.heap.size) (by go_size); simp [go_sem, *] at f6_w_0)); (try have l6_w_0 : w.heap.size < w6.heap.size := by omega); (try (have k6_w_1_0 := cellAt hb6 (w.heap.size + 1) (by go_size) 0; simp [go_sem, *] at k6_w_1_0)); (try (have k6_w_1_1 := cellAt hb6 (w.heap.size + 1) (by go_size) 1; simp [go_sem, *] at k6_w_1_1)); (try (have f6_w_1 := frozAt hb6 (w.heap.size + 1) (by go_size); simp [go_sem, *] at f6_w_1)); (try have l6_w_1 : w.heap.size + 1 < w6.heap.size := by omega); (try (have k6_w1_0_0 := cellAt hb6 (w1.heap.size) (by go_size) 0; simp [go_sem, *] at k6_w1_0_0)); (try (have k6_w1_0_1 := cellAt hb6 (w1.heap.size) (by go_size) 1; simp [go_sem, *] at k6_w1_0_1)); (try (have f6_w1_0 := frozAt hb6 (w1.heap.size) (by go_size); simp [go_sem, *] at f6_w1_0)); (try have l6_w1_0 : w1.heap.size < w6.heap.size := by omega); (try (have k6_g2_0 := cellAt hb6 (g2) (by go_size) 0; simp [go_sem, *] at k6_g2_0)); (try (have k6_g2_1 := cellAt hb6 (g2) (by go_size) 1; simp [go_sem, *] at k6_g2_1)); (try (have f6_g2 := frozAt hb6 (g2) (by go_size); simp [go_sem, *] at f6_g2)); (try have l6_g2 : g2 < w6.heap.size := by omega); (try (have k6_w4_0_0 := cellAt hb6 (w4.heap.size) (by go_size) 0; simp [go_sem, *] at k6_w4_0_0)); (try (have k6_w4_0_1 := cellAt hb6 (w4.heap.size) (by go_size) 1; simp [go_sem, *] at k6_w4_0_1)); (try (have f6_w4_0 := frozAt hb6 (w4.heap.size) (by go_size); simp [go_sem, *] at f6_w4_0)); (try have l6_w4_0 : w4.heap.size < w6.heap.size := by omega); (try clear k1_w_0_0); (try clear k1_w_0_1); (try clear f1_w_0); (try clear l1_w_0); (try clear k1_w_1_0); (try clear k1_w_1_1); (try clear f1_w_1); (try clear l1_w_1); (try clear k2_w_0_0); (try clear k2_w_0_1); (try clear f2_w_0); (try clear l2_w_0); (try clear k2_w_1_0); (try clear k2_w_1_1); (try clear f2_w_1); (try clear l2_w_1); (try clear k2_w1_0_0); (try clear k2_w1_0_1); (try clear f2_w1_0); (try clear l2_w1_0); (try clear k3_w_0_0); (try clear k3_w_0_1); (try clear f3_w_0); (try clear l3_w_0); (try clear k3_w_1_0); (try clear k3_w_1_1); (try clear f3_w_1); (try clear l3_w_1); (try clear k3_w1_0_0); (try clear k3_w1_0_1); (try clear f3_w1_0); (try clear l3_w1_0); (try clear k3_g2_0); (try clear k3_g2_1); (try clear f3_g2); (try clear l3_g2); (try clear k4_w_0_0); (try clear k4_w_0_1); (try clear f4_w_0); (try clear l4_w_0); (try clear k4_w_1_0); (try clear k4_w_1_1); (try clear f4_w_1); (try clear l4_w_1); (try clear k4_w1_0_0); (try clear k4_w1_0_1); (try clear f4_w1_0); (try clear l4_w1_0); (try clear k4_g2_0); (try clear k4_g2_1); (try clear f4_g2); (try clear l4_g2); (try clear k5_w_0_0); (try clear k5_w_0_1); (try clear f5_w_0); (try clear l5_w_0); (try clear k5_w_1_0); (try clear k5_w_1_1); (try clear f5_w_1); (try clear l5_w_1); (try clear k5_w1_0_0); (try clear k5_w1_0_1); (try clear f5_w1_0); (try clear l5_w1_0); (try clear k5_g2_0); (try clear k5_g2_1); (try clear f5_g2); (try clear l5_g2); (try clear k5_w4_0_0); (try clear k5_w4_0_1); (try clear f5_w4_0); (try clear l5_w4_0)))
            all_goals
              go_wp2_with (first | (have _t := tok7; go_at_call 65; (with_reducible refine ((C6 _).out).mono ?_); rintro e w7 ⟨rfl, hb7⟩; clear tok7 _t; have hz7 := hb7.size; (try simp only [World.size_alloc, World.size_setCell, World.size_drew, World.size_drewN'] at hz7); (try (have k7_w_0_0 := cellAt hb7 (w.heap.size) (by go_size) 0; simp [go_sem, *] at k7_w_0_0)); (try (have k7_w_0_1 := cellAt hb7 (w.heap.size) (by go_size) 1; simp [go_sem, *] at k7_w_0_1)); (try (have f7_w_0 := frozAt hb7 (w.heap.size) (by go_size); simp [go_sem, *] at f7_w_0)); (try have l7_w_0 : w.heap.size < w7.heap.size := by omega); (try (have k7_w_1_0 := cellAt hb7 (w.heap.size + 1) (by go_size) 0; simp [go_sem, *] at k7_w_1_0)); (try (have k7_w_1_1 := cellAt hb7 (w.heap.size + 1) (by go_size) 1; simp [go_sem, *] at k7_w_1_1)); (try (have f7_w_1 := frozAt hb7 (w.heap.size + 1) (by go_size); simp [go_sem, *] at f7_w_1)); (try have l7_w_1 : w.heap.size + 1 < w7.heap.size := by omega); (try (have k7_w1_0_0 := cellAt hb7 (w1.heap.size) (by go_size) 0; simp [go_sem, *] at k7_w1_0_0)); (try (have k7_w1_0_1 := cellAt hb7 (w1.heap.size) (by go_size) 1; simp [go_sem, *] at k7_w1_0_1)); (try (have f7_w1_0 := frozAt hb7 (w1.heap.size) (by go_size); simp [go_sem, *] at f7_w1_0)); (try have l7_w1_0 : w1.heap.size < w7.heap.size := by omega); (try (have k7_g2_0 := cellAt hb7 (g2) (by go_size) 0; simp [go_sem, *] at k7_g2_0)); (try (have k7_g2_1 := cellAt hb7 (g2) (by go_size) 1; simp [go_sem, *] at k7_g2_1)); (try (have f7_g2 := frozAt hb7 (g2) (by go_size); simp [go_sem, *] at f7_g2)); (try have l7_g2 : g2 < w7.heap.size := by omega); (try (have k7_w4_0_0 := cellAt hb7 (w4.heap.size) (by go_size) 0; simp [go_sem, *] at k7_w4_0_0)); (try (have k7_w4_0_1 := cellAt hb7 (w4.heap.size) (by go_size) 1; simp [go_sem, *] at k7_w4_0_1)); (try (have f7_w4_0 := frozAt hb7 (w4.heap.size) (by go_size); simp [go_sem, *] at f7_w4_0)); (try have l7_w4_0 : w4.heap.size < w7.heap.size := by omega); (try clear k1_w_0_0); (try clear k1_w_0_1); (try clear f1_w_0); (try clear l1_w_0); (try clear k1_w_1_0); (try clear k1_w_1_1); (try clear f1_w_1); (try clear l1_w_1); (try clear k2_w_0_0); (try clear k2_w_0_1); (try clear f2_w_0); (try clear l2_w_0); (try clear k2_w_1_0); (try clear k2_w_1_1); (try clear f2_w_1); (try clear l2_w_1); (try clear k2_w1_0_0); (try clear k2_w1_0_1); (try clear f2_w1_0); (try clear l2_w1_0); (try clear k3_w_0_0); (try clear k3_w_0_1); (try clear f3_w_0); (try clear l3_w_0); (try clear k3_w_1_0); (try clear k3_w_1_1); (try clear f3_w_1); (try clear l3_w_1); (try clear k3_w1_0_0); (try clear k3_w1_0_1); (try clear f3_w1_0); (try clear l3_w1_0); (try clear k3_g2_0); (try clear k3_g2_1); (try clear f3_g2); (try clear l3_g2); (try clear k4_w_0_0); (try clear k4_w_0_1); (try clear f4_w_0); (try clear l4_w_0); (try clear k4_w_1_0); (try clear k4_w_1_1); (try clear f4_w_1); (try clear l4_w_1); (try clear k4_w1_0_0); (try clear k4_w1_0_1); (try clear f4_w1_0); (try clear l4_w1_0); (try clear k4_g2_0); (try clear k4_g2_1); (try clear f4_g2); (try clear l4_g2); (try clear k5_w_0_0); (try clear k5_w_0_1); (try clear f5_w_0); (try clear l5_w_0); (try clear k5_w_1_0); (try clear k5_w_1_1); (try clear f5_w_1); (try clear l5_w_1); (try clear k5_w1_0_0); (try clear k5_w1_0_1); (try clear f5_w1_0); (try clear l5_w1_0); (try clear k5_g2_0); (try clear k5_g2_1); (try clear f5_g2); (try clear l5_g2); (try clear k5_w4_0_0); (try clear k5_w4_0_1); (try clear f5_w4_0); (try clear l5_w4_0); (try clear k6_w_0_0); (try clear k6_w_0_1); (try clear f6_w_0); (try clear l6_w_0); (try clear k6_w_1_0); (try clear k6_w_1_1); (try clear f6_w_1); (try clear l6_w_1); (try clear k6_w1_0_0); (try clear k6_w1_0_1); (try clear f6_w1_0); (try clear l6_w1_0); (try clear k6_g2_0); (try clear k6_g2_1); (try clear f6_g2); (try clear l6_g2); (try clear k6_w4_0_0); (try clear k6_w4_0_1); (try clear f6_w4_0); (try clear l6_w4_0)))
              go_ret2
              refine ⟨rfl, ?_⟩
              repeat' first | (with_reducible exact Below.refl _ _) | (with_reducible assumption) | (with_reducible refine below_drewN ?_ _) | (with_reducible refine Below.drew ?_) | (with_reducible refine Below.alloc ?_ ?_ _) | (with_reducible refine Below.setCell ?_ ?_ _) | (with_reducible refine below_via (by assumption) ?_ ?_) | go_size
end Go.Proofs.Ytnkdgcjegjccbaa
