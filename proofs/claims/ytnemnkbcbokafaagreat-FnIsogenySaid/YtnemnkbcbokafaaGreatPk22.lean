/- Lemmas and contracts of functions. No condition. -/
import Derived.Test.YtnemnkbcbokafaaGreatPk18
namespace Go.Proofs.YtnemnkbcbokafaaGreat
open Go.RowKit
set_option linter.unusedVariables false
set_option maxHeartbeats 8000000
set_option maxRecDepth 20000
set_option linter.unusedSimpArgs false
def tcB (a b : Int) : Bool := inB a (-300) 300 && (inB b (-300) 300 && (decide (b ≠ 0) && decide (a * a ≠ 4 * b)))
theorem tcB_cases (a b : Int) : (inB a (-300) 300 = false ∧ tcB a b = false) ∨ (inB a (-300) 300 = true ∧ ((inB b (-300) 300 = false ∧ tcB a b = false) ∨ (inB b (-300) 300 = true ∧ ((b = 0 ∧ tcB a b = false) ∨ (b ≠ 0 ∧ tcB a b = decide (a * a ≠ 4 * b)))))) := by
 cases h1 : inB a (-300) 300
 ·left; simp [tcB, h1]
 ·right; refine ⟨rfl, ?_⟩
  cases h2 : inB b (-300) 300
  ·left; simp [tcB, h1, h2]
  ·right; refine ⟨rfl, ?_⟩
   by_cases h3 : b = 0
   ·left; simp [tcB, h1, h2, h3]
   ·right; exact ⟨h3, by simp [tcB, h1, h2, h3]⟩
theorem tcB_bd {a b : Int} (h : tcB a b = true) : (-300 ≤ a ∧ a ≤ 300) ∧ (-300 ≤ b ∧ b ≤ 300) ∧ b ≠ 0 ∧ a * a ≠ 4 * b := by
 simp [tcB, inB] at h; omega
theorem tcGood_any (a b : Int) (w : World) : Calls Tryz.prog 31 #[.agg #[.int .i64 a, .int .i64 b]] w fun e w' => e = .returned (.bool (tcB a b)) ∧ Below w.heap.size w w' := by
 rcases tcB_cases a b with ⟨h1, h⟩ | ⟨h1, ⟨h2, h⟩ | ⟨h2, ⟨rfl, h⟩ | ⟨h3, h⟩⟩⟩
 all_goals
  rw [h]
  clear h
  try (have b1 := inB_iff.1 h1)
  try (have b2 := inB_iff.1 h2)
  try (have m := mul_bd (a := a) (b := a) (A := 300) (B := 300) (by omega) (by omega))
  go_enter Tryz.func31, Tryz.ntmps31
  go_wp2_with (first | (go_at_call 48; refine (l1In_any _ _ _ _).mono ?_; rintro e w' ⟨rfl, rfl⟩) | (go_at_call 55; refine (inside_any _ _ _ _).mono ?_; rintro e w' ⟨rfl, rfl⟩))
  go_ret
  refine ⟨ret_bool (by first | rfl | (rw [Bool.eq_iff_iff]; simp [h3])), ?_⟩
  exact bel
theorem isTwoCurve_any (a b : Int) (w : World) : Calls Tryz.prog 23 #[.agg #[.int .i64 a, .int .i64 b]] w fun e w' => e = .returned (.bool (tcB a b)) ∧ Below w.heap.size w w' := by
 rcases tcB_cases a b with ⟨h1, h⟩ | ⟨h1, ⟨h2, h⟩ | ⟨h2, ⟨rfl, h⟩ | ⟨h3, h⟩⟩⟩
 all_goals
  rw [h]
  clear h
  try (have b1 := inB_iff.1 h1)
  try (have b2 := inB_iff.1 h2)
  try (have m := mul_bd (a := a) (b := a) (A := 300) (B := 300) (by omega) (by omega))
  go_enter Tryz.func23, Tryz.ntmps23
  go_wp2_with (first | (go_at_call 48; refine (l1In_any _ _ _ _).mono ?_; rintro e w' ⟨rfl, rfl⟩) | (go_at_call 55; refine (inside_any _ _ _ _).mono ?_; rintro e w' ⟨rfl, rfl⟩))
  go_ret
  refine ⟨ret_bool (by first | rfl | (rw [Bool.eq_iff_iff]; simp [h3])), ?_⟩
  exact bel
/-! ### what the reference reckons -/
def onS (a b nx dx ny dy : Int) : Bool × Bool :=
 let l := prF ny dy ny dy
 let s := suF nx dx a 1
 if (l.2.2 && s.2.2) = true then
  let t := prF s.1 s.2.1 nx dx
  if t.2.2 = true then
   let u := suF t.1 t.2.1 b 1
   if u.2.2 = true then
    let r := prF nx dx u.1 u.2.1
    (r.2.2 && (l.1 == r.1 && l.2.1 == r.2.1), r.2.2)
   else (false, false)
  else (false, false)
 else (false, false)
theorem on_eq (a b nx dx ny dy : Int) (ha : -1000000000 ≤ a ∧ a ≤ 1000000000) (hb : -1000000000 ≤ b ∧ b ≤ 1000000000) : onT a b nx dx ny dy = onS a b nx dx ny dy := by
 unfold onT onS
 simp only [mkF_whole ha.1 ha.2, mkF_whole hb.1 hb.2]
 cases hl : (prF ny dy ny dy).2.2
 ·simp [stN, stD]
 ·cases hs : (suF nx dx a 1).2.2
  ·simp [stN, stD, hs]
  ·simp only [stN, stD, Bool.true_and, Bool.and_true, hs, if_true]
   cases ht : (prF (suF nx dx a 1).1 (suF nx dx a 1).2.1 nx dx).2.2
   ·simp
   ·cases hu : (suF (prF (suF nx dx a 1).1 (suF nx dx a 1).2.1 nx dx).1 (prF (suF nx dx a 1).1 (suF nx dx a 1).2.1 nx dx).2.1 b 1).2.2
    ·simp [hu]
    ·simp only [Bool.true_and, Bool.and_true, hu, if_true]
     generalize prF nx dx _ _ = r
     cases r.2.2 <;> simp [hl]
theorem tcOn_any (a b nx dx ny dy : Int) (w : World) (ha : -1000000000 ≤ a ∧ a ≤ 1000000000) (hb : -1000000000 ≤ b ∧ b ≤ 1000000000) (hx : frB nx dx = true) (hy : frB ny dy = true) :
  Calls Tryz.prog 33 #[.int .i64 a, .int .i64 b, .agg #[.int .i64 nx, .int .i64 dx], .agg #[.int .i64 ny, .int .i64 dy]] w fun e w' =>
   e = .returned (.tuple #[.bool (onS a b nx dx ny dy).1, .bool (onS a b nx dx ny dy).2]) ∧ Below w.heap.size w w' := by
 have C1 := fun W : World => Lib.hid (frMul_any W hy hy)
 have C3 := fun W : World => Lib.hid (frAdd_any W hx (frB_one ha.1 ha.2))
 have fs : (suF nx dx a 1).2.2 = true → frB (suF nx dx a 1).1 (suF nx dx a 1).2.1 = true := mkF_frB
 unfold onS
 generalize prF ny dy ny dy = l at *
 generalize suF nx dx a 1 = s at *
 obtain ⟨ln, ld, lo⟩ := l
 obtain ⟨sn, sd, so⟩ := s
 dsimp only at *
 cases lo
 ·simp only [Bool.false_and, Bool.false_eq_true, if_false]
  clear fs
  have tok1 := trivial
  have tok2 := trivial
  have tok3 := trivial
  have tok4 := trivial
  have tok5 := trivial
  have tok6 := trivial
  have tok7 := trivial
  go_enter Tryz.func33, Tryz.ntmps33
  go_wp2_with (first | (have _t := tok1; go_at_call 40; (with_reducible refine ((C1 _).out).mono ?_); rintro e w1 ⟨rfl, hb1⟩; clear tok1 _t; have hz1 := hb1.size; (try simp only [sA, sB, sC, sD] at hz1); (try (obtain ⟨qa, qb, qm⟩ := cf2 hb1 (w.heap.size); simp [go_sem, *] at qa qb qm)); (try have qz : w.heap.size < w1.heap.size := by omega); (try (obtain ⟨qc, qf, qp⟩ := cf2 hb1 (w.heap.size + 1); simp [go_sem, *] at qc qf qp)); (try have xa : w.heap.size + 1 < w1.heap.size := by omega)))
  refine wp_drawn_fill (n := 7) 12 30 26 #[.int .i64 0, .int .i64 0] (by kernel_rfl) (by kernel_rfl) (by kernel_rfl) ⟨_, rfl, rfl, rfl, fun _ _ => by simp [go_sem]⟩ ⟨_, rfl, rfl, rfl, rfl⟩ (by kernel_rfl) (by kernel_rfl) (by kernel_rfl) ?_
  apply Exists.intro
  refine ⟨?_, ?_⟩
  ·intro W hW
   try (have xj := fun x => xcell hW (w.heap.size) (by go_size) x 0; simp [go_sem, *] at xj)
   try (have xk := fun x => xcell hW (w.heap.size) (by go_size) x 1; simp [go_sem, *] at xk)
   try (have xl := fun x => xcell hW (w.heap.size + 1) (by go_size) x 0; simp [go_sem, *] at xl)
   try (have xm := fun x => xcell hW (w.heap.size + 1) (by go_size) x 1; simp [go_sem, *] at xm)
   try (have xb := fun x => xcell hW (w1.heap.size) (by go_size) x 0; simp [go_sem, *] at xb)
   try (have xc := fun x => xcell hW (w1.heap.size) (by go_size) x 1; simp [go_sem, *] at xc)
   simp only [List.take_succ_cons, List.take_zero]
   repeat (go_big_quiet_step ((first | (go_at_call 63; exact draw_of _ (frInt_any _ _)) | (go_at_call 44; (with_reducible exact draw_of _ ((C3 _).out))))))
   exact wpQuiet_nil rfl
  refine ⟨_, rfl, rfl, by simp [Value.oneCell'], ?_⟩
  intro g2 w2 hb2 hg2 hk2
  try simp only [sA, sB, sC, sD] at hg2
  try have jt : w.heap.size < g2 := by omega
  try have ju : w.heap.size + 1 < g2 := by omega
  try have jk : w1.heap.size < g2 := by omega
  simp only [List.drop_succ_cons, List.drop_zero, Act.put, List.setIfInBounds_toArray, List.set_cons_succ, List.set_cons_zero]
  have hz2 := hb2.size
  (try simp only [sA, sB, sC, sD] at hz2)
  (try (obtain ⟨qi, qj, qr⟩ := cf2 hb2 (w.heap.size); simp [go_sem, *] at qi qj qr))
  (try have xt : w.heap.size < w2.heap.size := by omega)
  (try (obtain ⟨qk, ql, qt⟩ := cf2 hb2 (w.heap.size + 1); simp [go_sem, *] at qk ql qt))
  (try have xu : w.heap.size + 1 < w2.heap.size := by omega)
  (try (obtain ⟨qg, qh, qq⟩ := cf2 hb2 (w1.heap.size); simp [go_sem, *] at qg qh qq))
  (try have xi : w1.heap.size < w2.heap.size := by omega)
  (try clear qa qb qm)
  (try clear qz)
  (try clear qc qf qp)
  (try clear xa)
  have kg2 := blk_cell hk2
  have fg2 := blk_frozen hk2
  have lg2 := blk_lt hk2
  go_wp2
  go_ret2
  refine ⟨rfl, ?_⟩
  exact bel
 ·cases so
  ·simp only [Bool.and_false, Bool.false_eq_true, if_false]
   clear fs
   have tok1 := trivial
   have tok2 := trivial
   have tok3 := trivial
   have tok4 := trivial
   have tok5 := trivial
   have tok6 := trivial
   have tok7 := trivial
   go_enter Tryz.func33, Tryz.ntmps33
   go_wp2_with (first | (have _t := tok1; go_at_call 40; (with_reducible refine ((C1 _).out).mono ?_); rintro e w1 ⟨rfl, hb1⟩; clear tok1 _t; have hz1 := hb1.size; (try simp only [sA, sB, sC, sD] at hz1); (try (obtain ⟨qa, qb, qm⟩ := cf2 hb1 (w.heap.size); simp [go_sem, *] at qa qb qm)); (try have qz : w.heap.size < w1.heap.size := by omega); (try (obtain ⟨qc, qf, qp⟩ := cf2 hb1 (w.heap.size + 1); simp [go_sem, *] at qc qf qp)); (try have xa : w.heap.size + 1 < w1.heap.size := by omega)))
   refine wp_drawn_fill (n := 7) 12 30 26 #[.int .i64 0, .int .i64 0] (by kernel_rfl) (by kernel_rfl) (by kernel_rfl) ⟨_, rfl, rfl, rfl, fun _ _ => by simp [go_sem]⟩ ⟨_, rfl, rfl, rfl, rfl⟩ (by kernel_rfl) (by kernel_rfl) (by kernel_rfl) ?_
   apply Exists.intro
   refine ⟨?_, ?_⟩
   ·intro W hW
    try (have xj := fun x => xcell hW (w.heap.size) (by go_size) x 0; simp [go_sem, *] at xj)
    try (have xk := fun x => xcell hW (w.heap.size) (by go_size) x 1; simp [go_sem, *] at xk)
    try (have xl := fun x => xcell hW (w.heap.size + 1) (by go_size) x 0; simp [go_sem, *] at xl)
    try (have xm := fun x => xcell hW (w.heap.size + 1) (by go_size) x 1; simp [go_sem, *] at xm)
    try (have xb := fun x => xcell hW (w1.heap.size) (by go_size) x 0; simp [go_sem, *] at xb)
    try (have xc := fun x => xcell hW (w1.heap.size) (by go_size) x 1; simp [go_sem, *] at xc)
    simp only [List.take_succ_cons, List.take_zero]
    repeat (go_big_quiet_step ((first | (go_at_call 63; exact draw_of _ (frInt_any _ _)) | (go_at_call 44; (with_reducible exact draw_of _ ((C3 _).out))))))
    exact wpQuiet_nil rfl
   refine ⟨_, rfl, rfl, by simp [Value.oneCell'], ?_⟩
   intro g2 w2 hb2 hg2 hk2
   try simp only [sA, sB, sC, sD] at hg2
   try have jt : w.heap.size < g2 := by omega
   try have ju : w.heap.size + 1 < g2 := by omega
   try have jk : w1.heap.size < g2 := by omega
   simp only [List.drop_succ_cons, List.drop_zero, Act.put, List.setIfInBounds_toArray, List.set_cons_succ, List.set_cons_zero]
   have hz2 := hb2.size
   (try simp only [sA, sB, sC, sD] at hz2)
   (try (obtain ⟨qi, qj, qr⟩ := cf2 hb2 (w.heap.size); simp [go_sem, *] at qi qj qr))
   (try have xt : w.heap.size < w2.heap.size := by omega)
   (try (obtain ⟨qk, ql, qt⟩ := cf2 hb2 (w.heap.size + 1); simp [go_sem, *] at qk ql qt))
   (try have xu : w.heap.size + 1 < w2.heap.size := by omega)
   (try (obtain ⟨qg, qh, qq⟩ := cf2 hb2 (w1.heap.size); simp [go_sem, *] at qg qh qq))
   (try have xi : w1.heap.size < w2.heap.size := by omega)
   (try clear qa qb qm)
   (try clear qz)
   (try clear qc qf qp)
   (try clear xa)
   have kg2 := blk_cell hk2
   have fg2 := blk_frozen hk2
   have lg2 := blk_lt hk2
   go_wp2
   go_ret2
   refine ⟨rfl, ?_⟩
   exact bel
  ·simp only [Bool.and_true, if_true]
   have fs := fs rfl
   have C4 := fun W : World => Lib.hid (frMul_any W fs hx)
   have ft : (prF sn sd nx dx).2.2 = true → frB (prF sn sd nx dx).1 (prF sn sd nx dx).2.1 = true := mkF_frB
   generalize prF sn sd nx dx = t at *
   obtain ⟨tn, td, tq⟩ := t
   dsimp only at *
   cases tq
   ·simp only [Bool.false_eq_true, if_false]
    clear ft
    have tok1 := trivial
    have tok2 := trivial
    have tok3 := trivial
    have tok4 := trivial
    have tok5 := trivial
    have tok6 := trivial
    have tok7 := trivial
    go_enter Tryz.func33, Tryz.ntmps33
    go_wp2_with (first | (have _t := tok1; go_at_call 40; (with_reducible refine ((C1 _).out).mono ?_); rintro e w1 ⟨rfl, hb1⟩; clear tok1 _t; have hz1 := hb1.size; (try simp only [sA, sB, sC, sD] at hz1); (try (obtain ⟨qa, qb, qm⟩ := cf2 hb1 (w.heap.size); simp [go_sem, *] at qa qb qm)); (try have qz : w.heap.size < w1.heap.size := by omega); (try (obtain ⟨qc, qf, qp⟩ := cf2 hb1 (w.heap.size + 1); simp [go_sem, *] at qc qf qp)); (try have xa : w.heap.size + 1 < w1.heap.size := by omega)))
    refine wp_drawn_fill (n := 7) 12 30 26 #[.int .i64 0, .int .i64 0] (by kernel_rfl) (by kernel_rfl) (by kernel_rfl) ⟨_, rfl, rfl, rfl, fun _ _ => by simp [go_sem]⟩ ⟨_, rfl, rfl, rfl, rfl⟩ (by kernel_rfl) (by kernel_rfl) (by kernel_rfl) ?_
    apply Exists.intro
    refine ⟨?_, ?_⟩
    ·intro W hW
     try (have xj := fun x => xcell hW (w.heap.size) (by go_size) x 0; simp [go_sem, *] at xj)
     try (have xk := fun x => xcell hW (w.heap.size) (by go_size) x 1; simp [go_sem, *] at xk)
     try (have xl := fun x => xcell hW (w.heap.size + 1) (by go_size) x 0; simp [go_sem, *] at xl)
     try (have xm := fun x => xcell hW (w.heap.size + 1) (by go_size) x 1; simp [go_sem, *] at xm)
     try (have xb := fun x => xcell hW (w1.heap.size) (by go_size) x 0; simp [go_sem, *] at xb)
     try (have xc := fun x => xcell hW (w1.heap.size) (by go_size) x 1; simp [go_sem, *] at xc)
     simp only [List.take_succ_cons, List.take_zero]
     repeat (go_big_quiet_step ((first | (go_at_call 63; exact draw_of _ (frInt_any _ _)) | (go_at_call 44; (with_reducible exact draw_of _ ((C3 _).out))))))
     exact wpQuiet_nil rfl
    refine ⟨_, rfl, rfl, by simp [Value.oneCell'], ?_⟩
    intro g2 w2 hb2 hg2 hk2
    try simp only [sA, sB, sC, sD] at hg2
    try have jt : w.heap.size < g2 := by omega
    try have ju : w.heap.size + 1 < g2 := by omega
    try have jk : w1.heap.size < g2 := by omega
    simp only [List.drop_succ_cons, List.drop_zero, Act.put, List.setIfInBounds_toArray, List.set_cons_succ, List.set_cons_zero]
    have hz2 := hb2.size
    (try simp only [sA, sB, sC, sD] at hz2)
    (try (obtain ⟨qi, qj, qr⟩ := cf2 hb2 (w.heap.size); simp [go_sem, *] at qi qj qr))
    (try have xt : w.heap.size < w2.heap.size := by omega)
    (try (obtain ⟨qk, ql, qt⟩ := cf2 hb2 (w.heap.size + 1); simp [go_sem, *] at qk ql qt))
    (try have xu : w.heap.size + 1 < w2.heap.size := by omega)
    (try (obtain ⟨qg, qh, qq⟩ := cf2 hb2 (w1.heap.size); simp [go_sem, *] at qg qh qq))
    (try have xi : w1.heap.size < w2.heap.size := by omega)
    (try clear qa qb qm)
    (try clear qz)
    (try clear qc qf qp)
    (try clear xa)
    have kg2 := blk_cell hk2
    have fg2 := blk_frozen hk2
    have lg2 := blk_lt hk2
    go_wp2_with (first | (have _t := tok4; go_at_call 40; (with_reducible refine ((C4 _).out).mono ?_); rintro e w4 ⟨rfl, hb4⟩; clear tok4 _t; have hz4 := hb4.size; (try simp only [sA, sB, sC, sD] at hz4); (try (obtain ⟨xe, xf, xx⟩ := cf2 hb4 (w.heap.size); simp [go_sem, *] at xe xf xx)); (try have zw : w.heap.size < w4.heap.size := by omega); (try (obtain ⟨xg, xh, xy⟩ := cf2 hb4 (w.heap.size + 1); simp [go_sem, *] at xg xh xy)); (try have zx : w.heap.size + 1 < w4.heap.size := by omega); (try (obtain ⟨qu, qw, xp⟩ := cf2 hb4 (w1.heap.size); simp [go_sem, *] at qu qw xp)); (try have zh : w1.heap.size < w4.heap.size := by omega); (try (obtain ⟨xq, xr, zq⟩ := cf2 hb4 (g2); simp [go_sem, *] at xq xr zq)); (try have jl : g2 < w4.heap.size := by omega); (try clear qa qb qm); (try clear qz); (try clear qc qf qp); (try clear xa); (try clear qi qj qr); (try clear xt); (try clear qk ql qt); (try clear xu); (try clear qg qh qq); (try clear xi); (try clear xz za zy); (try clear zz); (try clear zb zc jc); (try clear jd); (try clear xv xw zi); (try clear zj); (try clear zk zl jm); (try clear jn)))
    go_ret2
    refine ⟨rfl, ?_⟩
    exact bel
   ·simp only [if_true]
    have ft := ft rfl
    have C5 := fun W : World => Lib.hid (frAdd_any W ft (frB_one hb.1 hb.2))
    have fu : (suF tn td b 1).2.2 = true → frB (suF tn td b 1).1 (suF tn td b 1).2.1 = true := mkF_frB
    generalize suF tn td b 1 = u at *
    obtain ⟨un, ud, uo⟩ := u
    dsimp only at *
    cases uo
    ·simp only [Bool.false_eq_true, if_false]
     clear fu
     have tok1 := trivial
     have tok2 := trivial
     have tok3 := trivial
     have tok4 := trivial
     have tok5 := trivial
     have tok6 := trivial
     have tok7 := trivial
     go_enter Tryz.func33, Tryz.ntmps33
     go_wp2_with (first | (have _t := tok1; go_at_call 40; (with_reducible refine ((C1 _).out).mono ?_); rintro e w1 ⟨rfl, hb1⟩; clear tok1 _t; have hz1 := hb1.size; (try simp only [sA, sB, sC, sD] at hz1); (try (obtain ⟨qa, qb, qm⟩ := cf2 hb1 (w.heap.size); simp [go_sem, *] at qa qb qm)); (try have qz : w.heap.size < w1.heap.size := by omega); (try (obtain ⟨qc, qf, qp⟩ := cf2 hb1 (w.heap.size + 1); simp [go_sem, *] at qc qf qp)); (try have xa : w.heap.size + 1 < w1.heap.size := by omega)))
     refine wp_drawn_fill (n := 7) 12 30 26 #[.int .i64 0, .int .i64 0] (by kernel_rfl) (by kernel_rfl) (by kernel_rfl) ⟨_, rfl, rfl, rfl, fun _ _ => by simp [go_sem]⟩ ⟨_, rfl, rfl, rfl, rfl⟩ (by kernel_rfl) (by kernel_rfl) (by kernel_rfl) ?_
     apply Exists.intro
     refine ⟨?_, ?_⟩
     ·intro W hW
      try (have xj := fun x => xcell hW (w.heap.size) (by go_size) x 0; simp [go_sem, *] at xj)
      try (have xk := fun x => xcell hW (w.heap.size) (by go_size) x 1; simp [go_sem, *] at xk)
      try (have xl := fun x => xcell hW (w.heap.size + 1) (by go_size) x 0; simp [go_sem, *] at xl)
      try (have xm := fun x => xcell hW (w.heap.size + 1) (by go_size) x 1; simp [go_sem, *] at xm)
      try (have xb := fun x => xcell hW (w1.heap.size) (by go_size) x 0; simp [go_sem, *] at xb)
      try (have xc := fun x => xcell hW (w1.heap.size) (by go_size) x 1; simp [go_sem, *] at xc)
      simp only [List.take_succ_cons, List.take_zero]
      repeat (go_big_quiet_step ((first | (go_at_call 63; exact draw_of _ (frInt_any _ _)) | (go_at_call 44; (with_reducible exact draw_of _ ((C3 _).out))))))
      exact wpQuiet_nil rfl
     refine ⟨_, rfl, rfl, by simp [Value.oneCell'], ?_⟩
     intro g2 w2 hb2 hg2 hk2
     try simp only [sA, sB, sC, sD] at hg2
     try have jt : w.heap.size < g2 := by omega
     try have ju : w.heap.size + 1 < g2 := by omega
     try have jk : w1.heap.size < g2 := by omega
     simp only [List.drop_succ_cons, List.drop_zero, Act.put, List.setIfInBounds_toArray, List.set_cons_succ, List.set_cons_zero]
     have hz2 := hb2.size
     (try simp only [sA, sB, sC, sD] at hz2)
     (try (obtain ⟨qi, qj, qr⟩ := cf2 hb2 (w.heap.size); simp [go_sem, *] at qi qj qr))
     (try have xt : w.heap.size < w2.heap.size := by omega)
     (try (obtain ⟨qk, ql, qt⟩ := cf2 hb2 (w.heap.size + 1); simp [go_sem, *] at qk ql qt))
     (try have xu : w.heap.size + 1 < w2.heap.size := by omega)
     (try (obtain ⟨qg, qh, qq⟩ := cf2 hb2 (w1.heap.size); simp [go_sem, *] at qg qh qq))
     (try have xi : w1.heap.size < w2.heap.size := by omega)
     (try clear qa qb qm)
     (try clear qz)
     (try clear qc qf qp)
     (try clear xa)
     have kg2 := blk_cell hk2
     have fg2 := blk_frozen hk2
     have lg2 := blk_lt hk2
     go_wp2_with (first | (have _t := tok4; go_at_call 40; (with_reducible refine ((C4 _).out).mono ?_); rintro e w4 ⟨rfl, hb4⟩; clear tok4 _t; have hz4 := hb4.size; (try simp only [sA, sB, sC, sD] at hz4); (try (obtain ⟨xe, xf, xx⟩ := cf2 hb4 (w.heap.size); simp [go_sem, *] at xe xf xx)); (try have zw : w.heap.size < w4.heap.size := by omega); (try (obtain ⟨xg, xh, xy⟩ := cf2 hb4 (w.heap.size + 1); simp [go_sem, *] at xg xh xy)); (try have zx : w.heap.size + 1 < w4.heap.size := by omega); (try (obtain ⟨qu, qw, xp⟩ := cf2 hb4 (w1.heap.size); simp [go_sem, *] at qu qw xp)); (try have zh : w1.heap.size < w4.heap.size := by omega); (try (obtain ⟨xq, xr, zq⟩ := cf2 hb4 (g2); simp [go_sem, *] at xq xr zq)); (try have jl : g2 < w4.heap.size := by omega); (try clear qa qb qm); (try clear qz); (try clear qc qf qp); (try clear xa); (try clear qi qj qr); (try clear xt); (try clear qk ql qt); (try clear xu); (try clear qg qh qq); (try clear xi); (try clear xz za zy); (try clear zz); (try clear zb zc jc); (try clear jd); (try clear xv xw zi); (try clear zj); (try clear zk zl jm); (try clear jn)))
     go_region_held3 (fun w' => w'.cell? ⟨w4.heap.size, 0, none⟩ = some (.int .i64 tn) ∧ w'.cell? ⟨w4.heap.size, 1, none⟩ = some (.int .i64 td)) (first | go_keep | exact ⟨far2 (by assumption) (by omega), far2 (by assumption) (by omega)⟩) (first | (have _t := tok5; go_at_call 63; refine (frInt_any _ _).mono ?_; rintro e w5 ⟨rfl, hb5⟩; clear tok5 _t; have hz5 := hb5.size; (try simp only [sA, sB, sC, sD] at hz5); (try (obtain ⟨zm, zn, ji⟩ := cf2 hb5 (w.heap.size); simp [go_sem, *] at zm zn ji)); (try have yc : w.heap.size < w5.heap.size := by omega); (try (obtain ⟨zo, zp, jj⟩ := cf2 hb5 (w.heap.size + 1); simp [go_sem, *] at zo zp jj)); (try have ye : w.heap.size + 1 < w5.heap.size := by omega); (try (obtain ⟨zd, ze, zr⟩ := cf2 hb5 (w1.heap.size); simp [go_sem, *] at zd ze zr)); (try have jv : w1.heap.size < w5.heap.size := by omega); (try (obtain ⟨zt, zu, jw⟩ := cf2 hb5 (g2); simp [go_sem, *] at zt zu jw)); (try have yh : g2 < w5.heap.size := by omega); (try (obtain ⟨zf, zg, zv⟩ := cf2 hb5 (w4.heap.size); simp [go_sem, *] at zf zg zv)); (try have jx : w4.heap.size < w5.heap.size := by omega); (try clear qa qb qm); (try clear qz); (try clear qc qf qp); (try clear xa); (try clear qi qj qr); (try clear xt); (try clear qk ql qt); (try clear xu); (try clear qg qh qq); (try clear xi); (try clear xz za zy); (try clear zz); (try clear zb zc jc); (try clear jd); (try clear xv xw zi); (try clear zj); (try clear zk zl jm); (try clear jn); (try clear xe xf xx); (try clear zw); (try clear xg xh xy); (try clear zx); (try clear qu qw xp); (try clear zh); (try clear xq xr zq); (try clear jl)) | (have _t := tok6; go_at_call 44; (with_reducible refine ((C5 _).out).mono ?_); rintro e w6 ⟨rfl, hb6⟩; clear tok6 _t; have hz6 := hb6.size; (try simp only [sA, sB, sC, sD] at hz6); (try (obtain ⟨jo, jp, yf⟩ := cf2 hb6 (w.heap.size); simp [go_sem, *] at jo jp yf)); (try have yl : w.heap.size < w6.heap.size := by omega); (try (obtain ⟨jq, jr, yg⟩ := cf2 hb6 (w.heap.size + 1); simp [go_sem, *] at jq jr yg)); (try have ym : w.heap.size + 1 < w6.heap.size := by omega); (try (obtain ⟨je, jf, jy⟩ := cf2 hb6 (w1.heap.size); simp [go_sem, *] at je jf jy)); (try have yj : w1.heap.size < w6.heap.size := by omega); (try (obtain ⟨jz, ya, yi⟩ := cf2 hb6 (g2); simp [go_sem, *] at jz ya yi)); (try have yz : g2 < w6.heap.size := by omega); (try (obtain ⟨jg, jh, yb⟩ := cf2 hb6 (w4.heap.size); simp [go_sem, *] at jg jh yb)); (try have yk : w4.heap.size < w6.heap.size := by omega); (try clear qi qj qr); (try clear xt); (try clear qk ql qt); (try clear xu); (try clear qg qh qq); (try clear xi); (try clear xz za zy); (try clear zz); (try clear zb zc jc); (try clear jd); (try clear xv xw zi); (try clear zj); (try clear zk zl jm); (try clear jn); (try clear xe xf xx); (try clear zw); (try clear xg xh xy); (try clear zx); (try clear qu qw xp); (try clear zh); (try clear xq xr zq); (try clear jl); (try clear zm zn ji); (try clear yc); (try clear zo zp jj); (try clear ye); (try clear zd ze zr); (try clear jv); (try clear zt zu jw); (try clear yh); (try clear zf zg zv); (try clear jx)))
     all_goals
      go_wp2
      go_ret2
      refine ⟨rfl, ?_⟩
      exact bel
    ·simp only [if_true]
     have fu := fu rfl
     have C6 := fun W : World => Lib.hid (frMul_any W hx fu)
     generalize prF nx dx un ud = r at *
     obtain ⟨rn, rd, ro⟩ := r
     dsimp only at *
     have heq := fun W : World => eqFr ln ld rn rd W
     cases ro
     all_goals
      have tok1 := trivial
      have tok2 := trivial
      have tok3 := trivial
      have tok4 := trivial
      have tok5 := trivial
      have tok6 := trivial
      have tok7 := trivial
      go_enter Tryz.func33, Tryz.ntmps33
      go_wp2_with (first | (have _t := tok1; go_at_call 40; (with_reducible refine ((C1 _).out).mono ?_); rintro e w1 ⟨rfl, hb1⟩; clear tok1 _t; have hz1 := hb1.size; (try simp only [sA, sB, sC, sD] at hz1); (try (obtain ⟨qa, qb, qm⟩ := cf2 hb1 (w.heap.size); simp [go_sem, *] at qa qb qm)); (try have qz : w.heap.size < w1.heap.size := by omega); (try (obtain ⟨qc, qf, qp⟩ := cf2 hb1 (w.heap.size + 1); simp [go_sem, *] at qc qf qp)); (try have xa : w.heap.size + 1 < w1.heap.size := by omega)))
      refine wp_drawn_fill (n := 7) 12 30 26 #[.int .i64 0, .int .i64 0] (by kernel_rfl) (by kernel_rfl) (by kernel_rfl) ⟨_, rfl, rfl, rfl, fun _ _ => by simp [go_sem]⟩ ⟨_, rfl, rfl, rfl, rfl⟩ (by kernel_rfl) (by kernel_rfl) (by kernel_rfl) ?_
      apply Exists.intro
      refine ⟨?_, ?_⟩
      ·intro W hW
       try (have xj := fun x => xcell hW (w.heap.size) (by go_size) x 0; simp [go_sem, *] at xj)
       try (have xk := fun x => xcell hW (w.heap.size) (by go_size) x 1; simp [go_sem, *] at xk)
       try (have xl := fun x => xcell hW (w.heap.size + 1) (by go_size) x 0; simp [go_sem, *] at xl)
       try (have xm := fun x => xcell hW (w.heap.size + 1) (by go_size) x 1; simp [go_sem, *] at xm)
       try (have xb := fun x => xcell hW (w1.heap.size) (by go_size) x 0; simp [go_sem, *] at xb)
       try (have xc := fun x => xcell hW (w1.heap.size) (by go_size) x 1; simp [go_sem, *] at xc)
       simp only [List.take_succ_cons, List.take_zero]
       repeat (go_big_quiet_step ((first | (go_at_call 63; exact draw_of _ (frInt_any _ _)) | (go_at_call 44; (with_reducible exact draw_of _ ((C3 _).out))))))
       exact wpQuiet_nil rfl
      refine ⟨_, rfl, rfl, by simp [Value.oneCell'], ?_⟩
      intro g2 w2 hb2 hg2 hk2
      try simp only [sA, sB, sC, sD] at hg2
      try have jt : w.heap.size < g2 := by omega
      try have ju : w.heap.size + 1 < g2 := by omega
      try have jk : w1.heap.size < g2 := by omega
      simp only [List.drop_succ_cons, List.drop_zero, Act.put, List.setIfInBounds_toArray, List.set_cons_succ, List.set_cons_zero]
      have hz2 := hb2.size
      (try simp only [sA, sB, sC, sD] at hz2)
      (try (obtain ⟨qi, qj, qr⟩ := cf2 hb2 (w.heap.size); simp [go_sem, *] at qi qj qr))
      (try have xt : w.heap.size < w2.heap.size := by omega)
      (try (obtain ⟨qk, ql, qt⟩ := cf2 hb2 (w.heap.size + 1); simp [go_sem, *] at qk ql qt))
      (try have xu : w.heap.size + 1 < w2.heap.size := by omega)
      (try (obtain ⟨qg, qh, qq⟩ := cf2 hb2 (w1.heap.size); simp [go_sem, *] at qg qh qq))
      (try have xi : w1.heap.size < w2.heap.size := by omega)
      (try clear qa qb qm)
      (try clear qz)
      (try clear qc qf qp)
      (try clear xa)
      have kg2 := blk_cell hk2
      have fg2 := blk_frozen hk2
      have lg2 := blk_lt hk2
      go_wp2_with (first | (have _t := tok4; go_at_call 40; (with_reducible refine ((C4 _).out).mono ?_); rintro e w4 ⟨rfl, hb4⟩; clear tok4 _t; have hz4 := hb4.size; (try simp only [sA, sB, sC, sD] at hz4); (try (obtain ⟨xe, xf, xx⟩ := cf2 hb4 (w.heap.size); simp [go_sem, *] at xe xf xx)); (try have zw : w.heap.size < w4.heap.size := by omega); (try (obtain ⟨xg, xh, xy⟩ := cf2 hb4 (w.heap.size + 1); simp [go_sem, *] at xg xh xy)); (try have zx : w.heap.size + 1 < w4.heap.size := by omega); (try (obtain ⟨qu, qw, xp⟩ := cf2 hb4 (w1.heap.size); simp [go_sem, *] at qu qw xp)); (try have zh : w1.heap.size < w4.heap.size := by omega); (try (obtain ⟨xq, xr, zq⟩ := cf2 hb4 (g2); simp [go_sem, *] at xq xr zq)); (try have jl : g2 < w4.heap.size := by omega); (try clear qa qb qm); (try clear qz); (try clear qc qf qp); (try clear xa); (try clear qi qj qr); (try clear xt); (try clear qk ql qt); (try clear xu); (try clear qg qh qq); (try clear xi); (try clear xz za zy); (try clear zz); (try clear zb zc jc); (try clear jd); (try clear xv xw zi); (try clear zj); (try clear zk zl jm); (try clear jn)))
      go_region_held3 (fun w' => w'.cell? ⟨w4.heap.size, 0, none⟩ = some (.int .i64 tn) ∧ w'.cell? ⟨w4.heap.size, 1, none⟩ = some (.int .i64 td)) (first | go_keep | exact ⟨far2 (by assumption) (by omega), far2 (by assumption) (by omega)⟩) (first | (have _t := tok5; go_at_call 63; refine (frInt_any _ _).mono ?_; rintro e w5 ⟨rfl, hb5⟩; clear tok5 _t; have hz5 := hb5.size; (try simp only [sA, sB, sC, sD] at hz5); (try (obtain ⟨zm, zn, ji⟩ := cf2 hb5 (w.heap.size); simp [go_sem, *] at zm zn ji)); (try have yc : w.heap.size < w5.heap.size := by omega); (try (obtain ⟨zo, zp, jj⟩ := cf2 hb5 (w.heap.size + 1); simp [go_sem, *] at zo zp jj)); (try have ye : w.heap.size + 1 < w5.heap.size := by omega); (try (obtain ⟨zd, ze, zr⟩ := cf2 hb5 (w1.heap.size); simp [go_sem, *] at zd ze zr)); (try have jv : w1.heap.size < w5.heap.size := by omega); (try (obtain ⟨zt, zu, jw⟩ := cf2 hb5 (g2); simp [go_sem, *] at zt zu jw)); (try have yh : g2 < w5.heap.size := by omega); (try (obtain ⟨zf, zg, zv⟩ := cf2 hb5 (w4.heap.size); simp [go_sem, *] at zf zg zv)); (try have jx : w4.heap.size < w5.heap.size := by omega); (try clear qa qb qm); (try clear qz); (try clear qc qf qp); (try clear xa); (try clear qi qj qr); (try clear xt); (try clear qk ql qt); (try clear xu); (try clear qg qh qq); (try clear xi); (try clear xz za zy); (try clear zz); (try clear zb zc jc); (try clear jd); (try clear xv xw zi); (try clear zj); (try clear zk zl jm); (try clear jn); (try clear xe xf xx); (try clear zw); (try clear xg xh xy); (try clear zx); (try clear qu qw xp); (try clear zh); (try clear xq xr zq); (try clear jl)) | (have _t := tok6; go_at_call 44; (with_reducible refine ((C5 _).out).mono ?_); rintro e w6 ⟨rfl, hb6⟩; clear tok6 _t; have hz6 := hb6.size; (try simp only [sA, sB, sC, sD] at hz6); (try (obtain ⟨jo, jp, yf⟩ := cf2 hb6 (w.heap.size); simp [go_sem, *] at jo jp yf)); (try have yl : w.heap.size < w6.heap.size := by omega); (try (obtain ⟨jq, jr, yg⟩ := cf2 hb6 (w.heap.size + 1); simp [go_sem, *] at jq jr yg)); (try have ym : w.heap.size + 1 < w6.heap.size := by omega); (try (obtain ⟨je, jf, jy⟩ := cf2 hb6 (w1.heap.size); simp [go_sem, *] at je jf jy)); (try have yj : w1.heap.size < w6.heap.size := by omega); (try (obtain ⟨jz, ya, yi⟩ := cf2 hb6 (g2); simp [go_sem, *] at jz ya yi)); (try have yz : g2 < w6.heap.size := by omega); (try (obtain ⟨jg, jh, yb⟩ := cf2 hb6 (w4.heap.size); simp [go_sem, *] at jg jh yb)); (try have yk : w4.heap.size < w6.heap.size := by omega); (try clear qi qj qr); (try clear xt); (try clear qk ql qt); (try clear xu); (try clear qg qh qq); (try clear xi); (try clear xz za zy); (try clear zz); (try clear zb zc jc); (try clear jd); (try clear xv xw zi); (try clear zj); (try clear zk zl jm); (try clear jn); (try clear xe xf xx); (try clear zw); (try clear xg xh xy); (try clear zx); (try clear qu qw xp); (try clear zh); (try clear xq xr zq); (try clear jl); (try clear zm zn ji); (try clear yc); (try clear zo zp jj); (try clear ye); (try clear zd ze zr); (try clear jv); (try clear zt zu jw); (try clear yh); (try clear zf zg zv); (try clear jx)))
      all_goals
       go_wp2_with (first | (have _t := tok7; go_at_call 40; (with_reducible refine ((C6 _).out).mono ?_); rintro e w7 ⟨rfl, hb7⟩; clear tok7 _t; have hz7 := hb7.size; (try simp only [sA, sB, sC, sD] at hz7); (try (obtain ⟨yu, yv, vf⟩ := cf2 hb7 (w.heap.size); simp [go_sem, *] at yu yv vf)); (try have vk : w.heap.size < w7.heap.size := by omega); (try (obtain ⟨yw, yx, vg⟩ := cf2 hb7 (w.heap.size + 1); simp [go_sem, *] at yw yx vg)); (try have vl : w.heap.size + 1 < w7.heap.size := by omega); (try (obtain ⟨yp, yq, va⟩ := cf2 hb7 (w1.heap.size); simp [go_sem, *] at yp yq va)); (try have vi : w1.heap.size < w7.heap.size := by omega); (try (obtain ⟨vb, vc, vh⟩ := cf2 hb7 (g2); simp [go_sem, *] at vb vc vh)); (try have vm : g2 < w7.heap.size := by omega); (try (obtain ⟨yr, yt, vd⟩ := cf2 hb7 (w4.heap.size); simp [go_sem, *] at yr yt vd)); (try have vj : w4.heap.size < w7.heap.size := by omega); (try clear xz za zy); (try clear zz); (try clear zb zc jc); (try clear jd); (try clear xv xw zi); (try clear zj); (try clear zk zl jm); (try clear jn); (try clear xe xf xx); (try clear zw); (try clear xg xh xy); (try clear zx); (try clear qu qw xp); (try clear zh); (try clear xq xr zq); (try clear jl); (try clear zm zn ji); (try clear yc); (try clear zo zp jj); (try clear ye); (try clear zd ze zr); (try clear jv); (try clear zt zu jw); (try clear yh); (try clear zf zg zv); (try clear jx); (try clear jo jp yf); (try clear yl); (try clear jq jr yg); (try clear ym); (try clear je jf jy); (try clear yj); (try clear jz ya yi); (try clear yz); (try clear jg jh yb); (try clear yk)))
       go_ret2
       refine ⟨rfl, ?_⟩
       exact bel
end Go.Proofs.YtnemnkbcbokafaaGreat
