/- Lemmas and contracts of functions. No condition. -/
import Derived.Test.YtnemnkbcbokafaaGreatPk22
namespace Go.Proofs.YtnemnkbcbokafaaGreat
open Go.RowKit
set_option linter.unusedVariables false
set_option maxHeartbeats 8000000
set_option maxRecDepth 20000
set_option linter.unusedSimpArgs false
theorem quF_good {n1 d1 n2 d2 : Int} (h : (quF n1 d1 n2 d2).2.2 = true) : frB (quF n1 d1 n2 d2).1 (quF n1 d1 n2 d2).2.1 = true := by
 unfold quF at h ⊢
 split
 ·rename_i h0; rw [if_pos h0] at h; cases h
 ·rename_i h0; rw [if_neg h0] at h; exact mkF_frB h
def raT (b nx dx ny dy : Int) : (Int × Int) × (Int × Int) × Bool :=
 let r := quF ny dy nx dx
 let q := quF b 1 nx dx
 if (r.2.2 && q.2.2) = true then
  let s := diF q.1 q.2.1 nx dx
  ((r.1, r.2.1), (s.1, s.2.1), s.2.2)
 else ((0, 0), (0, 0), false)
def boT (rn rd sn sd : Int) : (Int × Int) × (Int × Int) × Bool :=
 let x := prF rn rd rn rd
 let y := prF rn rd sn sd
 if (x.2.2 && y.2.2) = true then ((x.1, x.2.1), (y.1, y.2.1), true) else ((0, 0), (0, 0), false)
theorem raT_good {b nx dx ny dy : Int} (h : (raT b nx dx ny dy).2.2 = true) : frB (raT b nx dx ny dy).1.1 (raT b nx dx ny dy).1.2 = true ∧ frB (raT b nx dx ny dy).2.1.1 (raT b nx dx ny dy).2.1.2 = true := by
 unfold raT at h ⊢
 dsimp only at h ⊢
 split
 ·rename_i h0
  rw [if_pos h0] at h
  simp only [Bool.and_eq_true] at h0
  exact ⟨quF_good h0.1, mkF_frB h⟩
 ·rename_i h0
  rw [if_neg h0] at h
  cases h
theorem tcRatios_any (b nx dx ny dy : Int) (w : World) (hb : -1000000000 ≤ b ∧ b ≤ 1000000000) (hx : frB nx dx = true) (hy : frB ny dy = true) :
  Calls Tryz.prog 34 #[.int .i64 b, .agg #[.int .i64 nx, .int .i64 dx], .agg #[.int .i64 ny, .int .i64 dy]] w fun e w' =>
   e = .returned (.tuple #[.agg #[.int .i64 (raT b nx dx ny dy).1.1, .int .i64 (raT b nx dx ny dy).1.2], .agg #[.int .i64 (raT b nx dx ny dy).2.1.1, .int .i64 (raT b nx dx ny dy).2.1.2], .bool (raT b nx dx ny dy).2.2]) ∧ Below w.heap.size w w' := by
 have C1 := fun W : World => Lib.hid (frDiv_any W hy hx)
 have C2 := fun W : World => Lib.hid (frDiv_any W (frB_one hb.1 hb.2) hx)
 have fq : (quF b 1 nx dx).2.2 = true → frB (quF b 1 nx dx).1 (quF b 1 nx dx).2.1 = true := quF_good
 unfold raT
 generalize quF ny dy nx dx = r at *
 generalize quF b 1 nx dx = q at *
 obtain ⟨rn, rd, ro⟩ := r
 obtain ⟨qn, qd, qo⟩ := q
 dsimp only at *
 cases ro
 ·simp only [Bool.false_and, Bool.false_eq_true, if_false]
  clear fq
  have tok1 := trivial
  have tok2 := trivial
  have tok3 := trivial
  go_enter Tryz.func34, Tryz.ntmps34
  go_wp2_with (first | (have _t := tok1; go_at_call 64; (with_reducible refine ((C1 _).out).mono ?_); rintro e w1 ⟨rfl, hb1⟩; clear tok1 _t; have hz1 := hb1.size; (try simp only [sA, sB, sC, sD] at hz1); (try (obtain ⟨qa, qb, qm⟩ := cf2 hb1 (w.heap.size); simp [go_sem, *] at qa qb qm)); (try have xt : w.heap.size < w1.heap.size := by omega); (try (obtain ⟨qc, qf, qp⟩ := cf2 hb1 (w.heap.size + 1); simp [go_sem, *] at qc qf qp)); (try have xu : w.heap.size + 1 < w1.heap.size := by omega); (try (obtain ⟨qg, qh, qq⟩ := cf2 hb1 (w.heap.size + 1 + 1); simp [go_sem, *] at qg qh qq)); (try have xv : w.heap.size + 1 + 1 < w1.heap.size := by omega); (try (obtain ⟨qi, qj, qr⟩ := cf2 hb1 (w.heap.size + 1 + 1 + 1); simp [go_sem, *] at qi qj qr)); (try have xw : w.heap.size + 1 + 1 + 1 < w1.heap.size := by omega)))
  refine wp_drawn_fill (n := 7) 11 26 26 #[.int .i64 0, .int .i64 0] (by kernel_rfl) (by kernel_rfl) (by kernel_rfl) ⟨_, rfl, rfl, rfl, fun _ _ => by simp [go_sem]⟩ ⟨_, rfl, rfl, rfl, rfl⟩ (by kernel_rfl) (by kernel_rfl) (by kernel_rfl) ?_
  apply Exists.intro
  refine ⟨?_, ?_⟩
  ·intro W hW
   try (have xi := fun x => xcell hW (w.heap.size) (by go_size) x 0; simp [go_sem, *] at xi)
   try (have xj := fun x => xcell hW (w.heap.size) (by go_size) x 1; simp [go_sem, *] at xj)
   try (have xk := fun x => xcell hW (w.heap.size + 1) (by go_size) x 0; simp [go_sem, *] at xk)
   try (have xl := fun x => xcell hW (w.heap.size + 1) (by go_size) x 1; simp [go_sem, *] at xl)
   try (have xm := fun x => xcell hW (w.heap.size + 1 + 1) (by go_size) x 0; simp [go_sem, *] at xm)
   try (have xp := fun x => xcell hW (w.heap.size + 1 + 1) (by go_size) x 1; simp [go_sem, *] at xp)
   try (have xq := fun x => xcell hW (w.heap.size + 1 + 1 + 1) (by go_size) x 0; simp [go_sem, *] at xq)
   try (have xr := fun x => xcell hW (w.heap.size + 1 + 1 + 1) (by go_size) x 1; simp [go_sem, *] at xr)
   try (have xf := fun x => xcell hW (w1.heap.size) (by go_size) x 0; simp [go_sem, *] at xf)
   try (have xg := fun x => xcell hW (w1.heap.size) (by go_size) x 1; simp [go_sem, *] at xg)
   simp only [List.take_succ_cons, List.take_zero]
   repeat (go_big_quiet_step ((first | (go_at_call 63; exact draw_of _ (frInt_any _ _)) | (go_at_call 64; (with_reducible exact draw_of _ ((C2 _).out))))))
   exact wpQuiet_nil rfl
  refine ⟨_, rfl, rfl, by simp [Value.oneCell'], ?_⟩
  intro g2 w2 hb2 hg2 hk2
  try simp only [sA, sB, sC, sD] at hg2
  try have zh : w.heap.size < g2 := by omega
  try have zi : w.heap.size + 1 < g2 := by omega
  try have zj : w.heap.size + 1 + 1 < g2 := by omega
  try have zk : w.heap.size + 1 + 1 + 1 < g2 := by omega
  try have zc : w1.heap.size < g2 := by omega
  simp only [List.drop_succ_cons, List.drop_zero, Act.put, List.setIfInBounds_toArray, List.set_cons_succ, List.set_cons_zero]
  have hz2 := hb2.size
  (try simp only [sA, sB, sC, sD] at hz2)
  (try (obtain ⟨qt, qu, xx⟩ := cf2 hb2 (w.heap.size); simp [go_sem, *] at qt qu xx))
  (try have zd : w.heap.size < w2.heap.size := by omega)
  (try (obtain ⟨qw, qz, xy⟩ := cf2 hb2 (w.heap.size + 1); simp [go_sem, *] at qw qz xy))
  (try have ze : w.heap.size + 1 < w2.heap.size := by omega)
  (try (obtain ⟨xa, xb, xz⟩ := cf2 hb2 (w.heap.size + 1 + 1); simp [go_sem, *] at xa xb xz))
  (try have zf : w.heap.size + 1 + 1 < w2.heap.size := by omega)
  (try (obtain ⟨xc, xe, za⟩ := cf2 hb2 (w.heap.size + 1 + 1 + 1); simp [go_sem, *] at xc xe za))
  (try have zg : w.heap.size + 1 + 1 + 1 < w2.heap.size := by omega)
  (try (obtain ⟨qk, ql, xh⟩ := cf2 hb2 (w1.heap.size); simp [go_sem, *] at qk ql xh))
  (try have zb : w1.heap.size < w2.heap.size := by omega)
  (try clear qa qb qm)
  (try clear xt)
  (try clear qc qf qp)
  (try clear xu)
  (try clear qg qh qq)
  (try clear xv)
  (try clear qi qj qr)
  (try clear xw)
  have kg2 := blk_cell hk2
  have fg2 := blk_frozen hk2
  have lg2 := blk_lt hk2
  go_wp2
  refine bodyPost_ret (v := _) (by simp [results, Tryz.results34, go_sem, *]) rfl ⟨rfl, ?_⟩
  exact bel
 ·cases qo
  ·simp only [Bool.and_false, Bool.false_eq_true, if_false]
   clear fq
   have tok1 := trivial
   have tok2 := trivial
   have tok3 := trivial
   go_enter Tryz.func34, Tryz.ntmps34
   go_wp2_with (first | (have _t := tok1; go_at_call 64; (with_reducible refine ((C1 _).out).mono ?_); rintro e w1 ⟨rfl, hb1⟩; clear tok1 _t; have hz1 := hb1.size; (try simp only [sA, sB, sC, sD] at hz1); (try (obtain ⟨qa, qb, qm⟩ := cf2 hb1 (w.heap.size); simp [go_sem, *] at qa qb qm)); (try have xt : w.heap.size < w1.heap.size := by omega); (try (obtain ⟨qc, qf, qp⟩ := cf2 hb1 (w.heap.size + 1); simp [go_sem, *] at qc qf qp)); (try have xu : w.heap.size + 1 < w1.heap.size := by omega); (try (obtain ⟨qg, qh, qq⟩ := cf2 hb1 (w.heap.size + 1 + 1); simp [go_sem, *] at qg qh qq)); (try have xv : w.heap.size + 1 + 1 < w1.heap.size := by omega); (try (obtain ⟨qi, qj, qr⟩ := cf2 hb1 (w.heap.size + 1 + 1 + 1); simp [go_sem, *] at qi qj qr)); (try have xw : w.heap.size + 1 + 1 + 1 < w1.heap.size := by omega)))
   refine wp_drawn_fill (n := 7) 11 26 26 #[.int .i64 0, .int .i64 0] (by kernel_rfl) (by kernel_rfl) (by kernel_rfl) ⟨_, rfl, rfl, rfl, fun _ _ => by simp [go_sem]⟩ ⟨_, rfl, rfl, rfl, rfl⟩ (by kernel_rfl) (by kernel_rfl) (by kernel_rfl) ?_
   apply Exists.intro
   refine ⟨?_, ?_⟩
   ·intro W hW
    try (have xi := fun x => xcell hW (w.heap.size) (by go_size) x 0; simp [go_sem, *] at xi)
    try (have xj := fun x => xcell hW (w.heap.size) (by go_size) x 1; simp [go_sem, *] at xj)
    try (have xk := fun x => xcell hW (w.heap.size + 1) (by go_size) x 0; simp [go_sem, *] at xk)
    try (have xl := fun x => xcell hW (w.heap.size + 1) (by go_size) x 1; simp [go_sem, *] at xl)
    try (have xm := fun x => xcell hW (w.heap.size + 1 + 1) (by go_size) x 0; simp [go_sem, *] at xm)
    try (have xp := fun x => xcell hW (w.heap.size + 1 + 1) (by go_size) x 1; simp [go_sem, *] at xp)
    try (have xq := fun x => xcell hW (w.heap.size + 1 + 1 + 1) (by go_size) x 0; simp [go_sem, *] at xq)
    try (have xr := fun x => xcell hW (w.heap.size + 1 + 1 + 1) (by go_size) x 1; simp [go_sem, *] at xr)
    try (have xf := fun x => xcell hW (w1.heap.size) (by go_size) x 0; simp [go_sem, *] at xf)
    try (have xg := fun x => xcell hW (w1.heap.size) (by go_size) x 1; simp [go_sem, *] at xg)
    simp only [List.take_succ_cons, List.take_zero]
    repeat (go_big_quiet_step ((first | (go_at_call 63; exact draw_of _ (frInt_any _ _)) | (go_at_call 64; (with_reducible exact draw_of _ ((C2 _).out))))))
    exact wpQuiet_nil rfl
   refine ⟨_, rfl, rfl, by simp [Value.oneCell'], ?_⟩
   intro g2 w2 hb2 hg2 hk2
   try simp only [sA, sB, sC, sD] at hg2
   try have zh : w.heap.size < g2 := by omega
   try have zi : w.heap.size + 1 < g2 := by omega
   try have zj : w.heap.size + 1 + 1 < g2 := by omega
   try have zk : w.heap.size + 1 + 1 + 1 < g2 := by omega
   try have zc : w1.heap.size < g2 := by omega
   simp only [List.drop_succ_cons, List.drop_zero, Act.put, List.setIfInBounds_toArray, List.set_cons_succ, List.set_cons_zero]
   have hz2 := hb2.size
   (try simp only [sA, sB, sC, sD] at hz2)
   (try (obtain ⟨qt, qu, xx⟩ := cf2 hb2 (w.heap.size); simp [go_sem, *] at qt qu xx))
   (try have zd : w.heap.size < w2.heap.size := by omega)
   (try (obtain ⟨qw, qz, xy⟩ := cf2 hb2 (w.heap.size + 1); simp [go_sem, *] at qw qz xy))
   (try have ze : w.heap.size + 1 < w2.heap.size := by omega)
   (try (obtain ⟨xa, xb, xz⟩ := cf2 hb2 (w.heap.size + 1 + 1); simp [go_sem, *] at xa xb xz))
   (try have zf : w.heap.size + 1 + 1 < w2.heap.size := by omega)
   (try (obtain ⟨xc, xe, za⟩ := cf2 hb2 (w.heap.size + 1 + 1 + 1); simp [go_sem, *] at xc xe za))
   (try have zg : w.heap.size + 1 + 1 + 1 < w2.heap.size := by omega)
   (try (obtain ⟨qk, ql, xh⟩ := cf2 hb2 (w1.heap.size); simp [go_sem, *] at qk ql xh))
   (try have zb : w1.heap.size < w2.heap.size := by omega)
   (try clear qa qb qm)
   (try clear xt)
   (try clear qc qf qp)
   (try clear xu)
   (try clear qg qh qq)
   (try clear xv)
   (try clear qi qj qr)
   (try clear xw)
   have kg2 := blk_cell hk2
   have fg2 := blk_frozen hk2
   have lg2 := blk_lt hk2
   go_wp2
   refine bodyPost_ret (v := _) (by simp [results, Tryz.results34, go_sem, *]) rfl ⟨rfl, ?_⟩
   exact bel
  ·simp only [Bool.and_true, if_true]
   have fq := fq rfl
   have C3 := fun W : World => Lib.hid (frSub_any W fq hx)
   generalize diF qn qd nx dx = s at *
   obtain ⟨sn, sd, so⟩ := s
   dsimp only at *
   have tok1 := trivial
   have tok2 := trivial
   have tok3 := trivial
   go_enter Tryz.func34, Tryz.ntmps34
   go_wp2_with (first | (have _t := tok1; go_at_call 64; (with_reducible refine ((C1 _).out).mono ?_); rintro e w1 ⟨rfl, hb1⟩; clear tok1 _t; have hz1 := hb1.size; (try simp only [sA, sB, sC, sD] at hz1); (try (obtain ⟨qa, qb, qm⟩ := cf2 hb1 (w.heap.size); simp [go_sem, *] at qa qb qm)); (try have xt : w.heap.size < w1.heap.size := by omega); (try (obtain ⟨qc, qf, qp⟩ := cf2 hb1 (w.heap.size + 1); simp [go_sem, *] at qc qf qp)); (try have xu : w.heap.size + 1 < w1.heap.size := by omega); (try (obtain ⟨qg, qh, qq⟩ := cf2 hb1 (w.heap.size + 1 + 1); simp [go_sem, *] at qg qh qq)); (try have xv : w.heap.size + 1 + 1 < w1.heap.size := by omega); (try (obtain ⟨qi, qj, qr⟩ := cf2 hb1 (w.heap.size + 1 + 1 + 1); simp [go_sem, *] at qi qj qr)); (try have xw : w.heap.size + 1 + 1 + 1 < w1.heap.size := by omega)))
   refine wp_drawn_fill (n := 7) 11 26 26 #[.int .i64 0, .int .i64 0] (by kernel_rfl) (by kernel_rfl) (by kernel_rfl) ⟨_, rfl, rfl, rfl, fun _ _ => by simp [go_sem]⟩ ⟨_, rfl, rfl, rfl, rfl⟩ (by kernel_rfl) (by kernel_rfl) (by kernel_rfl) ?_
   apply Exists.intro
   refine ⟨?_, ?_⟩
   ·intro W hW
    try (have xi := fun x => xcell hW (w.heap.size) (by go_size) x 0; simp [go_sem, *] at xi)
    try (have xj := fun x => xcell hW (w.heap.size) (by go_size) x 1; simp [go_sem, *] at xj)
    try (have xk := fun x => xcell hW (w.heap.size + 1) (by go_size) x 0; simp [go_sem, *] at xk)
    try (have xl := fun x => xcell hW (w.heap.size + 1) (by go_size) x 1; simp [go_sem, *] at xl)
    try (have xm := fun x => xcell hW (w.heap.size + 1 + 1) (by go_size) x 0; simp [go_sem, *] at xm)
    try (have xp := fun x => xcell hW (w.heap.size + 1 + 1) (by go_size) x 1; simp [go_sem, *] at xp)
    try (have xq := fun x => xcell hW (w.heap.size + 1 + 1 + 1) (by go_size) x 0; simp [go_sem, *] at xq)
    try (have xr := fun x => xcell hW (w.heap.size + 1 + 1 + 1) (by go_size) x 1; simp [go_sem, *] at xr)
    try (have xf := fun x => xcell hW (w1.heap.size) (by go_size) x 0; simp [go_sem, *] at xf)
    try (have xg := fun x => xcell hW (w1.heap.size) (by go_size) x 1; simp [go_sem, *] at xg)
    simp only [List.take_succ_cons, List.take_zero]
    repeat (go_big_quiet_step ((first | (go_at_call 63; exact draw_of _ (frInt_any _ _)) | (go_at_call 64; (with_reducible exact draw_of _ ((C2 _).out))))))
    exact wpQuiet_nil rfl
   refine ⟨_, rfl, rfl, by simp [Value.oneCell'], ?_⟩
   intro g2 w2 hb2 hg2 hk2
   try simp only [sA, sB, sC, sD] at hg2
   try have zh : w.heap.size < g2 := by omega
   try have zi : w.heap.size + 1 < g2 := by omega
   try have zj : w.heap.size + 1 + 1 < g2 := by omega
   try have zk : w.heap.size + 1 + 1 + 1 < g2 := by omega
   try have zc : w1.heap.size < g2 := by omega
   simp only [List.drop_succ_cons, List.drop_zero, Act.put, List.setIfInBounds_toArray, List.set_cons_succ, List.set_cons_zero]
   have hz2 := hb2.size
   (try simp only [sA, sB, sC, sD] at hz2)
   (try (obtain ⟨qt, qu, xx⟩ := cf2 hb2 (w.heap.size); simp [go_sem, *] at qt qu xx))
   (try have zd : w.heap.size < w2.heap.size := by omega)
   (try (obtain ⟨qw, qz, xy⟩ := cf2 hb2 (w.heap.size + 1); simp [go_sem, *] at qw qz xy))
   (try have ze : w.heap.size + 1 < w2.heap.size := by omega)
   (try (obtain ⟨xa, xb, xz⟩ := cf2 hb2 (w.heap.size + 1 + 1); simp [go_sem, *] at xa xb xz))
   (try have zf : w.heap.size + 1 + 1 < w2.heap.size := by omega)
   (try (obtain ⟨xc, xe, za⟩ := cf2 hb2 (w.heap.size + 1 + 1 + 1); simp [go_sem, *] at xc xe za))
   (try have zg : w.heap.size + 1 + 1 + 1 < w2.heap.size := by omega)
   (try (obtain ⟨qk, ql, xh⟩ := cf2 hb2 (w1.heap.size); simp [go_sem, *] at qk ql xh))
   (try have zb : w1.heap.size < w2.heap.size := by omega)
   (try clear qa qb qm)
   (try clear xt)
   (try clear qc qf qp)
   (try clear xu)
   (try clear qg qh qq)
   (try clear xv)
   (try clear qi qj qr)
   (try clear xw)
   have kg2 := blk_cell hk2
   have fg2 := blk_frozen hk2
   have lg2 := blk_lt hk2
   go_wp2_with (first | (have _t := tok3; go_at_call 65; (with_reducible refine ((C3 _).out).mono ?_); rintro e w3 ⟨rfl, hb3⟩; clear tok3 _t; have hz3 := hb3.size; (try simp only [sA, sB, sC, sD] at hz3); (try (obtain ⟨zn, zo, zz⟩ := cf2 hb3 (w.heap.size); simp [go_sem, *] at zn zo zz)); (try have jh : w.heap.size < w3.heap.size := by omega); (try (obtain ⟨zp, zq, jc⟩ := cf2 hb3 (w.heap.size + 1); simp [go_sem, *] at zp zq jc)); (try have ji : w.heap.size + 1 < w3.heap.size := by omega); (try (obtain ⟨zr, zt, jd⟩ := cf2 hb3 (w.heap.size + 1 + 1); simp [go_sem, *] at zr zt jd)); (try have jj : w.heap.size + 1 + 1 < w3.heap.size := by omega); (try (obtain ⟨zu, zv, je⟩ := cf2 hb3 (w.heap.size + 1 + 1 + 1); simp [go_sem, *] at zu zv je)); (try have jk : w.heap.size + 1 + 1 + 1 < w3.heap.size := by omega); (try (obtain ⟨zl, zm, zw⟩ := cf2 hb3 (w1.heap.size); simp [go_sem, *] at zl zm zw)); (try have jg : w1.heap.size < w3.heap.size := by omega); (try (obtain ⟨zx, zy, jf⟩ := cf2 hb3 (g2); simp [go_sem, *] at zx zy jf)); (try have jl : g2 < w3.heap.size := by omega); (try clear qa qb qm); (try clear xt); (try clear qc qf qp); (try clear xu); (try clear qg qh qq); (try clear xv); (try clear qi qj qr); (try clear xw); (try clear qt qu xx); (try clear zd); (try clear qw qz xy); (try clear ze); (try clear xa xb xz); (try clear zf); (try clear xc xe za); (try clear zg); (try clear qk ql xh); (try clear zb)))
   go_region
   all_goals
    go_wp2
    refine bodyPost_ret (v := _) (by simp [results, Tryz.results34, go_sem, *]) rfl ⟨rfl, ?_⟩
    exact bel
theorem tcBoth_any (rn rd sn sd : Int) (w : World) (hr : frB rn rd = true) (hs : frB sn sd = true) :
  Calls Tryz.prog 35 #[.agg #[.int .i64 rn, .int .i64 rd], .agg #[.int .i64 sn, .int .i64 sd]] w fun e w' =>
   e = .returned (.tuple #[.agg #[.int .i64 (boT rn rd sn sd).1.1, .int .i64 (boT rn rd sn sd).1.2], .agg #[.int .i64 (boT rn rd sn sd).2.1.1, .int .i64 (boT rn rd sn sd).2.1.2], .bool (boT rn rd sn sd).2.2]) ∧ Below w.heap.size w w' := by
 have C1 := fun W : World => Lib.hid (frMul_any W hr hr)
 have C2 := fun W : World => Lib.hid (frMul_any W hr hs)
 unfold boT
 generalize prF rn rd rn rd = x at *
 generalize prF rn rd sn sd = y at *
 obtain ⟨xn, xd, xo⟩ := x
 obtain ⟨yn, yd, yo⟩ := y
 dsimp only at *
 cases xo
 ·simp only [Bool.false_and, Bool.false_eq_true, if_false]
  have tok1 := trivial
  have tok2 := trivial
  go_enter Tryz.func35, Tryz.ntmps35
  go_wp2_with (first | (have _t := tok1; go_at_call 40; (with_reducible refine ((C1 _).out).mono ?_); rintro e w1 ⟨rfl, hb1⟩; clear tok1 _t; have hz1 := hb1.size; (try simp only [sA, sB, sC, sD] at hz1); (try (obtain ⟨qa, qb, qk⟩ := cf2 hb1 (w.heap.size); simp [go_sem, *] at qa qb qk)); (try have xg : w.heap.size < w1.heap.size := by omega); (try (obtain ⟨qc, qf, ql⟩ := cf2 hb1 (w.heap.size + 1); simp [go_sem, *] at qc qf ql)); (try have xh : w.heap.size + 1 < w1.heap.size := by omega); (try (obtain ⟨qg, qh, qm⟩ := cf2 hb1 (w.heap.size + 1 + 1); simp [go_sem, *] at qg qh qm)); (try have xi : w.heap.size + 1 + 1 < w1.heap.size := by omega); (try (obtain ⟨qi, qj, qp⟩ := cf2 hb1 (w.heap.size + 1 + 1 + 1); simp [go_sem, *] at qi qj qp)); (try have xj : w.heap.size + 1 + 1 + 1 < w1.heap.size := by omega)) | (have _t := tok2; go_at_call 40; (with_reducible refine ((C2 _).out).mono ?_); rintro e w2 ⟨rfl, hb2⟩; clear tok2 _t; have hz2 := hb2.size; (try simp only [sA, sB, sC, sD] at hz2); (try (obtain ⟨qt, qu, xk⟩ := cf2 hb2 (w.heap.size); simp [go_sem, *] at qt qu xk)); (try have xr : w.heap.size < w2.heap.size := by omega); (try (obtain ⟨qw, qz, xl⟩ := cf2 hb2 (w.heap.size + 1); simp [go_sem, *] at qw qz xl)); (try have xt : w.heap.size + 1 < w2.heap.size := by omega); (try (obtain ⟨xa, xb, xm⟩ := cf2 hb2 (w.heap.size + 1 + 1); simp [go_sem, *] at xa xb xm)); (try have xu : w.heap.size + 1 + 1 < w2.heap.size := by omega); (try (obtain ⟨xc, xe, xp⟩ := cf2 hb2 (w.heap.size + 1 + 1 + 1); simp [go_sem, *] at xc xe xp)); (try have xv : w.heap.size + 1 + 1 + 1 < w2.heap.size := by omega); (try (obtain ⟨qq, qr, xf⟩ := cf2 hb2 (w1.heap.size); simp [go_sem, *] at qq qr xf)); (try have xq : w1.heap.size < w2.heap.size := by omega); (try clear qa qb qk); (try clear xg); (try clear qc qf ql); (try clear xh); (try clear qg qh qm); (try clear xi); (try clear qi qj qp); (try clear xj)))
  refine bodyPost_ret (v := _) (by simp [results, Tryz.results35, go_sem, *]) rfl ⟨rfl, ?_⟩
  exact bel
 ·cases yo
  ·simp only [Bool.and_false, Bool.false_eq_true, if_false]
   have tok1 := trivial
   have tok2 := trivial
   go_enter Tryz.func35, Tryz.ntmps35
   go_wp2_with (first | (have _t := tok1; go_at_call 40; (with_reducible refine ((C1 _).out).mono ?_); rintro e w1 ⟨rfl, hb1⟩; clear tok1 _t; have hz1 := hb1.size; (try simp only [sA, sB, sC, sD] at hz1); (try (obtain ⟨qa, qb, qk⟩ := cf2 hb1 (w.heap.size); simp [go_sem, *] at qa qb qk)); (try have xg : w.heap.size < w1.heap.size := by omega); (try (obtain ⟨qc, qf, ql⟩ := cf2 hb1 (w.heap.size + 1); simp [go_sem, *] at qc qf ql)); (try have xh : w.heap.size + 1 < w1.heap.size := by omega); (try (obtain ⟨qg, qh, qm⟩ := cf2 hb1 (w.heap.size + 1 + 1); simp [go_sem, *] at qg qh qm)); (try have xi : w.heap.size + 1 + 1 < w1.heap.size := by omega); (try (obtain ⟨qi, qj, qp⟩ := cf2 hb1 (w.heap.size + 1 + 1 + 1); simp [go_sem, *] at qi qj qp)); (try have xj : w.heap.size + 1 + 1 + 1 < w1.heap.size := by omega)) | (have _t := tok2; go_at_call 40; (with_reducible refine ((C2 _).out).mono ?_); rintro e w2 ⟨rfl, hb2⟩; clear tok2 _t; have hz2 := hb2.size; (try simp only [sA, sB, sC, sD] at hz2); (try (obtain ⟨qt, qu, xk⟩ := cf2 hb2 (w.heap.size); simp [go_sem, *] at qt qu xk)); (try have xr : w.heap.size < w2.heap.size := by omega); (try (obtain ⟨qw, qz, xl⟩ := cf2 hb2 (w.heap.size + 1); simp [go_sem, *] at qw qz xl)); (try have xt : w.heap.size + 1 < w2.heap.size := by omega); (try (obtain ⟨xa, xb, xm⟩ := cf2 hb2 (w.heap.size + 1 + 1); simp [go_sem, *] at xa xb xm)); (try have xu : w.heap.size + 1 + 1 < w2.heap.size := by omega); (try (obtain ⟨xc, xe, xp⟩ := cf2 hb2 (w.heap.size + 1 + 1 + 1); simp [go_sem, *] at xc xe xp)); (try have xv : w.heap.size + 1 + 1 + 1 < w2.heap.size := by omega); (try (obtain ⟨qq, qr, xf⟩ := cf2 hb2 (w1.heap.size); simp [go_sem, *] at qq qr xf)); (try have xq : w1.heap.size < w2.heap.size := by omega); (try clear qa qb qk); (try clear xg); (try clear qc qf ql); (try clear xh); (try clear qg qh qm); (try clear xi); (try clear qi qj qp); (try clear xj)))
   refine bodyPost_ret (v := _) (by simp [results, Tryz.results35, go_sem, *]) rfl ⟨rfl, ?_⟩
   exact bel
  ·simp only [Bool.and_true, if_true]
   have tok1 := trivial
   have tok2 := trivial
   go_enter Tryz.func35, Tryz.ntmps35
   go_wp2_with (first | (have _t := tok1; go_at_call 40; (with_reducible refine ((C1 _).out).mono ?_); rintro e w1 ⟨rfl, hb1⟩; clear tok1 _t; have hz1 := hb1.size; (try simp only [sA, sB, sC, sD] at hz1); (try (obtain ⟨qa, qb, qk⟩ := cf2 hb1 (w.heap.size); simp [go_sem, *] at qa qb qk)); (try have xg : w.heap.size < w1.heap.size := by omega); (try (obtain ⟨qc, qf, ql⟩ := cf2 hb1 (w.heap.size + 1); simp [go_sem, *] at qc qf ql)); (try have xh : w.heap.size + 1 < w1.heap.size := by omega); (try (obtain ⟨qg, qh, qm⟩ := cf2 hb1 (w.heap.size + 1 + 1); simp [go_sem, *] at qg qh qm)); (try have xi : w.heap.size + 1 + 1 < w1.heap.size := by omega); (try (obtain ⟨qi, qj, qp⟩ := cf2 hb1 (w.heap.size + 1 + 1 + 1); simp [go_sem, *] at qi qj qp)); (try have xj : w.heap.size + 1 + 1 + 1 < w1.heap.size := by omega)) | (have _t := tok2; go_at_call 40; (with_reducible refine ((C2 _).out).mono ?_); rintro e w2 ⟨rfl, hb2⟩; clear tok2 _t; have hz2 := hb2.size; (try simp only [sA, sB, sC, sD] at hz2); (try (obtain ⟨qt, qu, xk⟩ := cf2 hb2 (w.heap.size); simp [go_sem, *] at qt qu xk)); (try have xr : w.heap.size < w2.heap.size := by omega); (try (obtain ⟨qw, qz, xl⟩ := cf2 hb2 (w.heap.size + 1); simp [go_sem, *] at qw qz xl)); (try have xt : w.heap.size + 1 < w2.heap.size := by omega); (try (obtain ⟨xa, xb, xm⟩ := cf2 hb2 (w.heap.size + 1 + 1); simp [go_sem, *] at xa xb xm)); (try have xu : w.heap.size + 1 + 1 < w2.heap.size := by omega); (try (obtain ⟨xc, xe, xp⟩ := cf2 hb2 (w.heap.size + 1 + 1 + 1); simp [go_sem, *] at xc xe xp)); (try have xv : w.heap.size + 1 + 1 + 1 < w2.heap.size := by omega); (try (obtain ⟨qq, qr, xf⟩ := cf2 hb2 (w1.heap.size); simp [go_sem, *] at qq qr xf)); (try have xq : w1.heap.size < w2.heap.size := by omega); (try clear qa qb qk); (try clear xg); (try clear qc qf ql); (try clear xh); (try clear qg qh qm); (try clear xi); (try clear qi qj qp); (try clear xj)))
   go_region
   all_goals
    go_wp2
    refine bodyPost_ret (v := _) (by simp [results, Tryz.results35, go_sem, *]) rfl ⟨rfl, ?_⟩
    exact bel
theorem tcDual_any (a b : Int) (w : World) (ha : -300 ≤ a ∧ a ≤ 300) (hb : -300 ≤ b ∧ b ≤ 300) :
  Calls Tryz.prog 39 #[.agg #[.int .i64 a, .int .i64 b]] w fun e w' => e = .returned (.tuple #[.int .i64 (-2 * a), .int .i64 (a * a - 4 * b)]) ∧ Below w.heap.size w w' := by
 have m := mul_bd (a := a) (b := a) (A := 300) (B := 300) (by omega) (by omega)
 go_enter Tryz.func39, Tryz.ntmps39
 go_wp2_with fail
 go_quiet (fail)
 go_wp2_with fail
 go_ret2
 refine ⟨rfl, ?_⟩
 exact bel
theorem side_any (a b : Int) (w : World) (ha : -300 ≤ a ∧ a ≤ 300) (hb : -300 ≤ b ∧ b ≤ 300) :
  Calls Tryz.prog 38 #[.agg #[.int .i64 a, .int .i64 b], .bool true] w fun e w' => e = .returned (.tuple #[.int .i64 (-2 * a), .int .i64 (a * a - 4 * b)]) ∧ Below w.heap.size w w' := by
 have m := mul_bd (a := a) (b := a) (A := 300) (B := 300) (by omega) (by omega)
 go_enter Tryz.func38, Tryz.ntmps38
 go_wp2_with fail
 go_quiet (fail)
 go_wp2_with fail
 go_ret2
 refine ⟨rfl, ?_⟩
 exact bel
end Go.Proofs.YtnemnkbcbokafaaGreat
