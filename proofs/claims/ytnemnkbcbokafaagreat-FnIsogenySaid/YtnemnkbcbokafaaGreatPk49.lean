/- Lemmas and contracts of functions. No condition. -/
import Derived.Test.YtnemnkbcbokafaaGreatPk15
import Derived.Test.YtnemnkbcbokafaaGreatPk36
import Derived.Test.YtnemnkbcbokafaaGreatPk47
import Derived.Test.YtnemnkbcbokafaaGreatPk48
namespace Go.Proofs.YtnemnkbcbokafaaGreat
open Go.RowKit
set_option linter.unusedVariables false
set_option maxHeartbeats 4000000
set_option maxRecDepth 20000
set_option linter.unusedSimpArgs false
def RetC (f : FuncId) (args : Array Value) (r : Value) : Prop := ∀ W : World, Calls Tryz.prog f args W fun e w' => e = .returned r ∧ Below W.heap.size W w'
theorem XIsTwoCurve_any (a b : Int) (w : World) : Calls Tryz.prog 16 #[.agg #[.int .i64 a, .int .i64 b]] w fun e w' => e = .returned (.bool (tcB a b)) ∧ Below w.heap.size w w' := by
 have tok1 := trivial
 go_enter Tryz.func16, Tryz.ntmps16
 go_wp2_with (first | (have _t := tok1; go_at_call 23; refine (isTwoCurve_any _ _ _).mono ?_; rintro e w1 ⟨rfl, hb1⟩; clear tok1 _t; have hz1 := hb1.size; (try simp only [sA, sB, sC, sD] at hz1); (try (obtain ⟨qa, qb, qc⟩ := cf2 hb1 (w.heap.size); simp [go_sem, *] at qa qb qc)); (try have qf : w.heap.size < w1.heap.size := by omega)))
 go_ret
 refine ⟨rfl, ?_⟩
 exact bel
/-! ### plain -/
theorem gd_yes {g : Two3} {a b nx dx ny dy : Int} (h : (gdV g a b nx dx ny dy).2.2 = true) : gdV g a b nx dx ny dy = g ∧ g.2.2 = true ∧ tcB a b = true ∧ frB nx dx = true ∧ frB ny dy = true ∧ nx ≠ 0 := by
 unfold gdV at h ⊢
 split at h
 ·rename_i h0
  rw [if_pos h0]
  simp only [Bool.and_eq_true, decide_eq_true_eq] at h0
  exact ⟨rfl, h, h0.1, h0.2.1, h0.2.2.1, h0.2.2.2⟩
 ·cases h
theorem twP_yes {a b nx dx ny dy : Int} (h1 : tcB a b = true) (h2 : frB nx dx = true) (h3 : frB ny dy = true) : twP a b nx dx ny dy = onS a b nx dx ny dy := by
 unfold twP; rw [h1, h2, h3]; rfl
theorem two_yes {f : Int → Int → Int → Int → Int × Int × Bool} {n1 d1 n2 d2 : Int} (h : (twoF f n1 d1 n2 d2).2.2 = true) : twoF f n1 d1 n2 d2 = f n1 d1 n2 d2 ∧ frB n1 d1 = true ∧ frB n2 d2 = true := by
 unfold twoF at h ⊢
 split at h
 ·rename_i h0
  rw [Bool.and_eq_true] at h0
  exact ⟨by rw [h0.1, h0.2]; rfl, h0.1, h0.2⟩
 ·cases h
theorem fc_q {n d : Int} (h : (fcV n d).2.2 = true) : frB (fcV n d).1 (fcV n d).2.1 = true ∧ qv (fcV n d).1 (fcV n d).2.1 = qv n d := by
 unfold fcV at h ⊢
 split at h
 ·rename_i h0
  rw [if_pos h0]
  unfold fcB at h0
  simp only [Bool.and_eq_true, decide_eq_true_eq] at h0
  exact mkF_q h0.2.2 h
 ·cases h
theorem pa_in {A B n d : Int} {z : P3} (hz : z ∈ paL A B n d) : (cvB A B = true ∧ frB n d = true) ∧ z.1 = n ∧ (1 ≤ z.2.2 ∧ z.2.2 ≤ 20) ∧ z.2.2 * z.2.2 = d ∧ ptB A B z.1 z.2.1 z.2.2 = true := by
 unfold paL at hz
 split at hz
 ·rename_i h
  unfold paO at h
  simp only [Bool.and_eq_true, decide_eq_true_eq] at h
  obtain ⟨h1, h2, h3, h4, h5⟩ := h
  have h3' : rtV d * rtV d = d := by simpa using h3
  have hb := frB_bd h2
  have hr := rtV_spec' (n := d) (by omega)
  have hr1 : 1 ≤ rtV d := by
   rcases (show rtV d = 0 ∨ 1 ≤ rtV d by have := hr.1; omega) with h | h
   ·rw [h] at h3'; omega
   ·exact h
  have hg : gcdI n (rtV d) = 1 := by
   have hg := frB_gcd h2
   rw [← h3'] at hg
   unfold gcdI at hg ⊢
   have h6 : (Int.gcd n (rtV d)) ∣ Int.gcd n (rtV d * rtV d) := Int.dvd_gcd (Int.gcd_dvd_left ..) (Int.dvd_trans (Int.gcd_dvd_right ..) (Int.dvd_mul_right _ _))
   have h7 : Int.gcd n (rtV d * rtV d) = 1 := by omega
   rw [h7] at h6
   have := Nat.dvd_one.1 h6
   omega
  unfold hvA at hz
  split at hz
  ·rename_i h8
   have hok : hvOk A B n (rtV d) = true := by unfold hvOk; rw [decide_eq_true hg, h8]; rfl
   obtain ⟨k1, k2⟩ := pm_in hz
   dsimp only at k1 k2
   refine ⟨⟨h1, h2⟩, k1, ?_, ?_, pm_ok (inB_iff.1 h5) ⟨hr1, h4⟩ hok hz⟩
   ·rw [k2]; exact ⟨hr1, h4⟩
   ·rw [k2]; exact h3'
  ·cases hz
 ·cases hz
theorem pa_len (A B n d : Int) : (paL A B n d).length ≤ 2 := by
 unfold paL
 split
 ·unfold hvA
  split
  ·exact pm_len _
  ·simp
 ·simp
theorem dp_e {A B x y e : Int} (h : (dpV A B x y e).2.2.2 = true) : dpV A B x y e = ptS A x y e x y e ∧ cvB A B = true ∧ ptB A B x y e = true ∧ (0 ≤ (ptS A x y e x y e).2.2.1 ∧ (ptS A x y e x y e).2.2.1 ≤ 20) := by
 unfold dpV at h ⊢
 split at h
 ·rename_i h0
  rw [if_pos h0]
  rw [Bool.and_eq_true] at h0
  have hc := cvB_bd h0.1
  refine ⟨rfl, h0.1, h0.2, ?_⟩
  rcases ptS_ok hc.1 hc.2.1 h0.2 h0.2 with ⟨-, h2⟩ | h2
  ·rcases pt_cases hc.1 hc.2.1 h2 with ⟨-, -, e0⟩ | ⟨he, -⟩
   ·rw [e0]; decide
   ·omega
  ·rw [h2] at h; cases h
 ·cases h
theorem pt_on {A B x y e : Int} (hA : -1000 ≤ A ∧ A ≤ 1000) (hB : -10000 ≤ B ∧ B ≤ 10000) (h : ptB A B x y e = true) (he : 1 ≤ e) : y * y = evV A B x e := by
 rcases pt_cases hA hB h with ⟨-, -, e0⟩ | ⟨-, -, -, -, hc⟩
 ·omega
 ·exact hc
/-! ### setups -/
theorem is_set1 (a b nx dx ny dy : Int) : ∃ (p1 p2 z1 z2 : Int) (ok is told : Bool) (m n : Int) (five : Bool) (ra rb mv : Int) (seven : Bool),
  RetC 5 #[.agg #[.int .i64 a, .int .i64 b], .agg #[.int .i64 nx, .int .i64 dx], .agg #[.int .i64 ny, .int .i64 dy]] (.tuple #[.agg #[.int .i64 p1, .int .i64 p2], .agg #[.int .i64 z1, .int .i64 z2], .bool ok]) ∧
  RetC 6 #[.agg #[.int .i64 a, .int .i64 b], .agg #[.int .i64 nx, .int .i64 dx], .agg #[.int .i64 ny, .int .i64 dy]] (.tuple #[.agg #[.int .i64 p1, .int .i64 p2], .agg #[.int .i64 z1, .int .i64 z2], .bool ok]) ∧
  RetC 10 #[.agg #[.int .i64 a, .int .i64 b], .agg #[.int .i64 nx, .int .i64 dx], .agg #[.int .i64 ny, .int .i64 dy]] (.tuple #[.bool is, .bool told]) ∧
  RetC 11 #[.agg #[.int .i64 a, .int .i64 b], .agg #[.int .i64 nx, .int .i64 dx], .agg #[.int .i64 ny, .int .i64 dy]] (.tuple #[.bool is, .bool told]) ∧
  RetC 12 #[.agg #[.int .i64 a, .int .i64 b]] (.tuple #[.int .i64 m, .int .i64 n, .bool five]) ∧
  RetC 13 #[.agg #[.int .i64 a, .int .i64 b]] (.tuple #[.int .i64 m, .int .i64 n, .bool five]) ∧
  RetC 14 #[.agg #[.int .i64 a, .int .i64 b]] (.tuple #[.agg #[.int .i64 ra, .int .i64 rb], .int .i64 mv, .bool seven]) ∧
  RetC 15 #[.agg #[.int .i64 a, .int .i64 b]] (.tuple #[.agg #[.int .i64 ra, .int .i64 rb], .int .i64 mv, .bool seven]) ∧
  RetC 16 #[.agg #[.int .i64 a, .int .i64 b]] (.bool five) ∧
  (ok = true → told = true ∧ is = true) ∧
  (five = true → (-300 ≤ a ∧ a ≤ 300) ∧ (-300 ≤ b ∧ b ≤ 300) ∧ (-600 ≤ m ∧ m ≤ 600) ∧ (-100000 ≤ n ∧ n ≤ 100000) ∧ -2 * m = 4 * a ∧ m * m - 4 * n = 16 * b) ∧
  (ok = true → seven = true → a.tmod 3 = 0 → ∃ (kn kd hn hd : Int) (done : Bool) (sn sd : Int) (right : Bool) (L : List P3) (there : Bool),
   RetC 8 #[.agg #[.int .i64 a, .int .i64 b], .agg #[.int .i64 p1, .int .i64 p2], .agg #[.int .i64 z1, .int .i64 z2]] (.tuple #[.agg #[.int .i64 kn, .int .i64 kd], .agg #[.int .i64 hn, .int .i64 hd], .bool done]) ∧
   RetC 9 #[.agg #[.int .i64 a, .int .i64 b], .agg #[.int .i64 p1, .int .i64 p2], .agg #[.int .i64 z1, .int .i64 z2]] (.tuple #[.agg #[.int .i64 kn, .int .i64 kd], .agg #[.int .i64 hn, .int .i64 hd], .bool done]) ∧
   RetC 17 #[.agg #[.int .i64 nx, .int .i64 dx], .agg #[.int .i64 mv, .int .i64 1]] (.tuple #[.agg #[.int .i64 sn, .int .i64 sd], .bool right]) ∧
   (∀ W, Calls Tryz.prog 18 #[.agg #[.int .i64 ra, .int .i64 rb], .agg #[.int .i64 sn, .int .i64 sd]] W (NewX W 3 L.length (flat3 L) there)) ∧
   L.length ≤ 2 ∧
   ∀ i, i < L.length → ∀ X Y E : Int, L[i]?.getD (0, 0, 0) = (X, Y, E) → (1 ≤ E ∧ E ≤ 20) ∧ ∃ (fn fd : Int) (sure : Bool) (wx wy we : Int) (had : Bool) (m1 m2 : Int) (all : Bool) (x1 x2 : Int) (one : Bool) (y1 y2 : Int) (two : Bool),
    RetC 19 #[.int .i64 Y, .int .i64 (E * E * E)] (.tuple #[.agg #[.int .i64 fn, .int .i64 fd], .bool sure]) ∧
    RetC 20 #[.agg #[.int .i64 ra, .int .i64 rb], .agg #[.int .i64 X, .int .i64 Y, .int .i64 E]] (.tuple #[.agg #[.int .i64 wx, .int .i64 wy, .int .i64 we], .bool had]) ∧
    RetC 21 #[.agg #[.int .i64 ra, .int .i64 rb], .agg #[.int .i64 X, .int .i64 Y, .int .i64 E]] (.tuple #[.agg #[.int .i64 wx, .int .i64 wy, .int .i64 we], .bool had]) ∧
    (had = true → 0 ≤ we ∧ we ≤ 20) ∧
    RetC 17 #[.agg #[.int .i64 kn, .int .i64 kd], .agg #[.int .i64 mv, .int .i64 1]] (.tuple #[.agg #[.int .i64 m1, .int .i64 m2], .bool all]) ∧
    RetC 19 #[.int .i64 wx, .int .i64 (we * we)] (.tuple #[.agg #[.int .i64 x1, .int .i64 x2], .bool one]) ∧
    RetC 19 #[.int .i64 wy, .int .i64 (we * we * we)] (.tuple #[.agg #[.int .i64 y1, .int .i64 y2], .bool two]) ∧
    (right = true → there = true → sure = true → fn = ny → fd = dy → done = true → had = true → 0 < we → all = true → one = true → two = true → m1 = x1 ∧ m2 = x2 ∧ hn = y1 ∧ hd = y2)) := by
 refine ⟨_, _, _, _, _, _, _, _, _, _, _, _, _, _, ImageOf_any a b nx dx ny dy, sImageOf_any a b nx dx ny dy, IsTwoPoint_any a b nx dx ny dy, sIsTwoPoint_any a b nx dx ny dy, DualOf_any a b, sDualOf_any a b, PlainModel_any a b, sPlainModel_any a b, XIsTwoCurve_any a b, fun h => ?_, fun h => ?_, fun h h7 h3 => ?_⟩
 ·obtain ⟨-, g1, g2, g3, g4, g5⟩ := gd_yes h
  have hb := tcB_bd g2
  obtain ⟨-, k, -⟩ := imW_q (by omega) (by omega) g3 g4 g1
  rw [twP_yes g2 g3 g4, k]
  exact ⟨rfl, rfl⟩
 ·have hb := tcB_bd h
  have m1 := mul_bd (a := a) (b := a) (A := 300) (B := 300) (by omega) (by omega)
  rw [h]
  simp only [ifZ_t]
  refine ⟨hb.1, hb.2.1, by omega, by omega, by omega, ?_⟩
  grind
 ·obtain ⟨e0, g1, g2, g3, g4, g5⟩ := gd_yes h
  have hb := tcB_bd g2
  have hv := pl_bd hb.1
  rw [h7]
  simp only [ifZ_t]
  rw [e0]
  refine ⟨_, _, _, _, _, _, _, _, paL (plT a b).1 (plT a b).2.1 _ _, _, BackImage_any a b _ _ _ _, sBackImage_any a b _ _ _ _, sSumOf_any nx dx _ 1, PointsAtX_any _ _ _ _, pa_len _ _ _ _, fun i hi X Y E hL => ?_⟩
  have hm := List.getElem_mem hi
  rw [List.getElem?_eq_getElem hi, Option.getD_some] at hL
  rw [hL] at hm
  obtain ⟨⟨c1, c2⟩, c3, c4, c5, c6⟩ := pa_in hm
  dsimp only at c3 c4 c5 c6
  refine ⟨c4, _, _, _, _, _, _, _, _, _, _, _, _, _, _, _, _, FractionOf_any _ _, DoublePoint_any _ _ _ _ _, sDoublePoint_any _ _ _ _ _, fun hh => ?_, sSumOf_any _ _ _ 1, FractionOf_any _ _, FractionOf_any _ _, fun r1 r2 r3 r4 r5 r6 r7 r8 r9 r10 r11 => ?_⟩
  ·obtain ⟨q1, -, -, q2⟩ := dp_e hh
   rw [q1]; exact q2
  ·have e3 : plT a b = (b - 3 * a.tdiv 3 * a.tdiv 3, 2 * a.tdiv 3 * a.tdiv 3 * a.tdiv 3 - a.tdiv 3 * b, a.tdiv 3) := if_pos h3
   have hdv : a = 3 * a.tdiv 3 := by have := Int.mul_tdiv_add_tmod a 3; omega
   obtain ⟨q1, q2, q3, q4⟩ := dp_e r7
   obtain ⟨e6, b1, -, b3, b4, -⟩ := gd_yes r6
   obtain ⟨e1, -, f1⟩ := two_yes r1
   obtain ⟨e9, -, f9⟩ := two_yes r9
   obtain ⟨u3, v3⟩ := fc_q r3
   obtain ⟨u10, v10⟩ := fc_q r10
   obtain ⟨u11, v11⟩ := fc_q r11
   have hc := cvB_bd c1
   have hA : (plT a b).1 = b - 3 * a.tdiv 3 * a.tdiv 3 := by rw [e3]
   have hM : (plT a b).2.2 = a.tdiv 3 := by rw [e3]
   rw [hM] at e1 e9 r1 r9 c3 c5 c2 f1 f9 ⊢
   generalize a.tdiv 3 = m at *
   have k1 : (suF nx dx m 1).2.2 = true := by rw [← e1]; exact r1
   obtain ⟨j1, j2⟩ := suF_q g3 f1 k1
   rw [e1] at c3 c5
   rw [← c3, ← c5, qv_one] at j2
   have k2 := biW_q (a := -2 * a) (b := a * a - 4 * b) (by omega) (by
    have := mul_bd (a := a) (b := a) (A := 300) (B := 300) (by omega) (by omega)
    omega) b3 b4 b1
   obtain ⟨-, k3, k4, -⟩ := k2
   have hy : qv Y (E * E * E) = qv ny dy := by rw [← v3, r4, r5]
   have h10 : (ptS (plT a b).1 X Y E X Y E).2.2.2 = true := by rw [← q1]; exact r7
   have hcur := pt_on hc.1 hc.2.1 q3 c4.1
   rw [q1] at r8 r10 r11 v10 v11 u10 u11 ⊢
   rw [hA] at q4 h10 hcur r8 r10 r11 v10 v11 u10 u11 ⊢
   obtain ⟨z1, z2⟩ := iso_dbl (x := (ptS (b - 3 * m * m) X Y E X Y E).1) (y := (ptS (b - 3 * m * m) X Y E X Y E).2.1) (e := (ptS (b - 3 * m * m) X Y E X Y E).2.2.1) g2 hdv g3 g4 g1 b1 c4.1 j2 hy hcur (by rw [← h10]) (by omega)
   have k5 : (suF (biW (-2 * a) (a * a - 4 * b) (imW a b nx dx ny dy).1.1 (imW a b nx dx ny dy).1.2 (imW a b nx dx ny dy).2.1.1 (imW a b nx dx ny dy).2.1.2).1.1 (biW (-2 * a) (a * a - 4 * b) (imW a b nx dx ny dy).1.1 (imW a b nx dx ny dy).1.2 (imW a b nx dx ny dy).2.1.1 (imW a b nx dx ny dy).2.1.2).1.2 m 1).2.2 = true := by rw [← e6, ← e9]; exact r9
   obtain ⟨j5, j6⟩ := suF_q k3 f9 k5
   rw [qv_one, z1, ← v10] at j6
   rw [← v11] at z2
   rw [e6] at e9 ⊢
   rw [e9]
   obtain ⟨w1, w2⟩ := qv_inj j5 u10 j6
   obtain ⟨w3, w4⟩ := qv_inj k4 u11 z2
   exact ⟨w1, w2, w3, w4⟩
theorem is_set2 (a b nx dx ny dy : Int) : ∃ (ga gb ja jb : Int) (one : Bool),
  RetC 8 #[.agg #[.int .i64 a, .int .i64 b], .agg #[.int .i64 nx, .int .i64 dx], .agg #[.int .i64 ny, .int .i64 dy]] (.tuple #[.agg #[.int .i64 ga, .int .i64 gb], .agg #[.int .i64 ja, .int .i64 jb], .bool one]) ∧
  RetC 9 #[.agg #[.int .i64 a, .int .i64 b], .agg #[.int .i64 nx, .int .i64 dx], .agg #[.int .i64 ny, .int .i64 dy]] (.tuple #[.agg #[.int .i64 ga, .int .i64 gb], .agg #[.int .i64 ja, .int .i64 jb], .bool one]) ∧
  (one = true → ∃ is told : Bool, RetC 10 #[.agg #[.int .i64 a, .int .i64 b], .agg #[.int .i64 ga, .int .i64 gb], .agg #[.int .i64 ja, .int .i64 jb]] (.tuple #[.bool is, .bool told]) ∧ (told = true → is = true)) := by
 refine ⟨_, _, _, _, _, BackImage_any a b nx dx ny dy, sBackImage_any a b nx dx ny dy, fun h => ⟨_, _, IsTwoPoint_any a b _ _ _ _, fun ht => ?_⟩⟩
 obtain ⟨e0, g1, g2, g3, g4, g5⟩ := gd_yes h
 rw [e0] at ht ⊢
 have hb := tcB_bd g2
 obtain ⟨-, k3, k4, -⟩ := biW_q (a := -2 * a) (b := a * a - 4 * b) (by omega) (by
  have := mul_bd (a := a) (b := a) (A := 300) (B := 300) (by omega) (by omega)
  omega) g3 g4 g1
 rw [twP_yes g2 k3 k4] at ht ⊢
 exact bi_on g2 g3 g4 g1 ht
end Go.Proofs.YtnemnkbcbokafaaGreat
