/- Lemmas and contracts of functions. No condition. -/
import Derived.Test.YtnkmgpmehkholaaGreatPq3
import Derived.Test.YtnkmgpmehkholaaGreatPq5
namespace Go.Proofs.YtnkmgpmehkholaaGreat
section
open Go.RowKit
set_option linter.unusedVariables false
set_option maxHeartbeats 1000000
set_option maxRecDepth 20000
set_option linter.unusedSimpArgs false
attribute [local go_sem] openAt openUpon
theorem pB {x y X Y : Int} (hx : 0 ≤ x ∧ x ≤ X) (hy : 0 ≤ y ∧ y ≤ Y) : 0 ≤ x * y ∧ x * y ≤ X * Y := by
 have h := mul_bd (a := x) (b := y) (A := X) (B := Y) (by omega) (by omega)
 have h2 : 0 ≤ x * y := Int.mul_nonneg hx.1 hy.1
 exact ⟨h2, h.2⟩
def coV (a b : Int) : Int := 4 * a * a * a + 27 * b * b
theorem coV_bd {a b : Int} (ha : -1000 ≤ a ∧ a ≤ 1000) (hb : -10000 ≤ b ∧ b ≤ 10000) : -6700000000 ≤ coV a b ∧ coV a b ≤ 6700000000 := by
 have m1 := mul_bd (a := 4 * a) (b := a) (A := 4000) (B := 1000) (by omega) (by omega)
 have m2 := mul_bd (a := 4 * a * a) (b := a) (A := 4000000) (B := 1000) (by omega) (by omega)
 have m3 := mul_bd (a := 27 * b) (b := b) (A := 270000) (B := 10000) (by omega) (by omega)
 unfold coV; omega
def cvB (a b : Int) : Bool := inB a (-1000) 1000 && (inB b (-10000) 10000 && decide (coV a b ≠ 0))
theorem cvB_cases (a b : Int) : (inB a (-1000) 1000 = false ∧ cvB a b = false) ∨ (inB a (-1000) 1000 = true ∧ ((inB b (-10000) 10000 = false ∧ cvB a b = false) ∨ (inB b (-10000) 10000 = true ∧ cvB a b = (coV a b != 0)))) := by
 cases h1 : inB a (-1000) 1000
 ·left; simp [cvB, h1]
 ·right; refine ⟨rfl, ?_⟩
  cases h2 : inB b (-10000) 10000
  ·left; simp [cvB, h2]
  ·right; refine ⟨rfl, ?_⟩
   simp [cvB, h1, h2, bne]
   by_cases h : coV a b = 0 <;> simp [h]
theorem cvB_bd {a b : Int} (h : cvB a b = true) : (-1000 ≤ a ∧ a ≤ 1000) ∧ (-10000 ≤ b ∧ b ≤ 10000) ∧ coV a b ≠ 0 := by
 simp [cvB, inB] at h; omega
theorem ecDisc_any (a b : Int) (w : World) (ha : -1000 ≤ a ∧ a ≤ 1000) (hb : -10000 ≤ b ∧ b ≤ 10000) : Calls Tryz.prog 80 #[.agg #[.int .i64 a, .int .i64 b]] w fun e w' => e = .returned (.int .i64 (coV a b)) ∧ Below w.heap.size w w' := by
 have m1 := mul_bd (a := 4 * a) (b := a) (A := 4000) (B := 1000) (by omega) (by omega)
 have m2 := mul_bd (a := 4 * a * a) (b := a) (A := 4000000) (B := 1000) (by omega) (by omega)
 have m3 := mul_bd (a := 27 * b) (b := b) (A := 270000) (B := 10000) (by omega) (by omega)
 go_enter Tryz.func80, Tryz.ntmps80
 go_wp2_with fail
 go_ret
 refine ⟨rfl, ?_⟩
 exact bel
theorem core_any (a b : Int) (w : World) (ha : -1000 ≤ a ∧ a ≤ 1000) (hb : -10000 ≤ b ∧ b ≤ 10000) : Calls Tryz.prog 65 #[.agg #[.int .i64 a, .int .i64 b]] w fun e w' => e = .returned (.int .i64 (coV a b)) ∧ Below w.heap.size w w' := by
 have m1 := mul_bd (a := 4 * a) (b := a) (A := 4000) (B := 1000) (by omega) (by omega)
 have m2 := mul_bd (a := 4 * a * a) (b := a) (A := 4000000) (B := 1000) (by omega) (by omega)
 have m3 := mul_bd (a := 27 * b) (b := b) (A := 270000) (B := 10000) (by omega) (by omega)
 go_enter Tryz.func65, Tryz.ntmps65
 go_wp2_with fail
 go_ret
 refine ⟨rfl, ?_⟩
 exact bel
theorem ecGood_any (a b : Int) (w : World) : Calls Tryz.prog 63 #[.agg #[.int .i64 a, .int .i64 b]] w fun e w' => e = .returned (.bool (cvB a b)) ∧ Below w.heap.size w w' := by
 have T1 := fun W : World => Lib.hid (l1In_any a (-1000) 1000 W)
 have T2 := fun W : World => Lib.hid (l1In_any b (-10000) 10000 W)
 rcases cvB_cases a b with ⟨h1, h⟩ | ⟨h1, ⟨h2, h⟩ | ⟨h2, h⟩⟩
 ·rw [h]
  rw [h1] at T1
  have T3 := T1
  clear h h1
  have tok1 := trivial
  go_enter Tryz.func63, Tryz.ntmps63
  go_wp2_with (first | (go_at_call 47; (with_reducible refine ((T1 _).out).mono ?_); rintro e w' ⟨rfl, rfl⟩) | (go_at_call 47; (with_reducible refine ((T2 _).out).mono ?_); rintro e w' ⟨rfl, rfl⟩) | (have _t := tok1; go_at_call 80; (with_reducible refine ((T3 _).out).mono ?_); rintro e w1 ⟨rfl, hb1⟩; clear tok1 _t; have hz1 := hb1.size; (try simp only [sA, sB, sC, sD] at hz1); (try (obtain ⟨kq, qe⟩ := cfAt hb1 (w.heap.size); have qc := kq 0; have qd := kq 1; clear kq; simp [go_sem, *] at qc qd qe)); (try have qf : w.heap.size < w1.heap.size := by omega)))
  go_ret
  refine ⟨rfl, ?_⟩
  exact bel
 ·rw [h]
  rw [h1] at T1
  rw [h2] at T2
  have T3 := T1
  clear h h1 h2
  have tok1 := trivial
  go_enter Tryz.func63, Tryz.ntmps63
  go_wp2_with (first | (go_at_call 47; (with_reducible refine ((T1 _).out).mono ?_); rintro e w' ⟨rfl, rfl⟩) | (go_at_call 47; (with_reducible refine ((T2 _).out).mono ?_); rintro e w' ⟨rfl, rfl⟩) | (have _t := tok1; go_at_call 80; (with_reducible refine ((T3 _).out).mono ?_); rintro e w1 ⟨rfl, hb1⟩; clear tok1 _t; have hz1 := hb1.size; (try simp only [sA, sB, sC, sD] at hz1); (try (obtain ⟨kq, qe⟩ := cfAt hb1 (w.heap.size); have qc := kq 0; have qd := kq 1; clear kq; simp [go_sem, *] at qc qd qe)); (try have qf : w.heap.size < w1.heap.size := by omega)))
  go_ret
  refine ⟨rfl, ?_⟩
  exact bel
 ·rw [h]
  have T3 := fun W : World => Lib.hid (ecDisc_any a b W (inB_iff.1 h1) (inB_iff.1 h2))
  rw [h1] at T1
  rw [h2] at T2
  clear h h1 h2
  generalize coV a b = v at *
  have tok1 := trivial
  go_enter Tryz.func63, Tryz.ntmps63
  go_wp2_with (first | (go_at_call 47; (with_reducible refine ((T1 _).out).mono ?_); rintro e w' ⟨rfl, rfl⟩) | (go_at_call 47; (with_reducible refine ((T2 _).out).mono ?_); rintro e w' ⟨rfl, rfl⟩) | (have _t := tok1; go_at_call 80; (with_reducible refine ((T3 _).out).mono ?_); rintro e w1 ⟨rfl, hb1⟩; clear tok1 _t; have hz1 := hb1.size; (try simp only [sA, sB, sC, sD] at hz1); (try (obtain ⟨kq, qe⟩ := cfAt hb1 (w.heap.size); have qc := kq 0; have qd := kq 1; clear kq; simp [go_sem, *] at qc qd qe)); (try have qf : w.heap.size < w1.heap.size := by omega)))
  go_ret
  refine ⟨rfl, ?_⟩
  exact bel
theorem isCurve_any (a b : Int) (w : World) : Calls Tryz.prog 34 #[.agg #[.int .i64 a, .int .i64 b]] w fun e w' => e = .returned (.bool (cvB a b)) ∧ Below w.heap.size w w' := by
 have T1 := fun W : World => Lib.hid (inside_any a (-1000) 1000 W)
 have T2 := fun W : World => Lib.hid (inside_any b (-10000) 10000 W)
 rcases cvB_cases a b with ⟨h1, h⟩ | ⟨h1, ⟨h2, h⟩ | ⟨h2, h⟩⟩
 ·rw [h]
  rw [h1] at T1
  have T3 := T1
  clear h h1
  have tok1 := trivial
  go_enter Tryz.func34, Tryz.ntmps34
  go_wp2_with (first | (go_at_call 35; (with_reducible refine ((T1 _).out).mono ?_); rintro e w' ⟨rfl, rfl⟩) | (go_at_call 35; (with_reducible refine ((T2 _).out).mono ?_); rintro e w' ⟨rfl, rfl⟩) | (have _t := tok1; go_at_call 65; (with_reducible refine ((T3 _).out).mono ?_); rintro e w1 ⟨rfl, hb1⟩; clear tok1 _t; have hz1 := hb1.size; (try simp only [sA, sB, sC, sD] at hz1); (try (obtain ⟨kq, qe⟩ := cfAt hb1 (w.heap.size); have qc := kq 0; have qd := kq 1; clear kq; simp [go_sem, *] at qc qd qe)); (try have qf : w.heap.size < w1.heap.size := by omega)))
  go_ret
  refine ⟨rfl, ?_⟩
  exact bel
 ·rw [h]
  rw [h1] at T1
  rw [h2] at T2
  have T3 := T1
  clear h h1 h2
  have tok1 := trivial
  go_enter Tryz.func34, Tryz.ntmps34
  go_wp2_with (first | (go_at_call 35; (with_reducible refine ((T1 _).out).mono ?_); rintro e w' ⟨rfl, rfl⟩) | (go_at_call 35; (with_reducible refine ((T2 _).out).mono ?_); rintro e w' ⟨rfl, rfl⟩) | (have _t := tok1; go_at_call 65; (with_reducible refine ((T3 _).out).mono ?_); rintro e w1 ⟨rfl, hb1⟩; clear tok1 _t; have hz1 := hb1.size; (try simp only [sA, sB, sC, sD] at hz1); (try (obtain ⟨kq, qe⟩ := cfAt hb1 (w.heap.size); have qc := kq 0; have qd := kq 1; clear kq; simp [go_sem, *] at qc qd qe)); (try have qf : w.heap.size < w1.heap.size := by omega)))
  go_ret
  refine ⟨rfl, ?_⟩
  exact bel
 ·rw [h]
  have T3 := fun W : World => Lib.hid (core_any a b W (inB_iff.1 h1) (inB_iff.1 h2))
  rw [h1] at T1
  rw [h2] at T2
  clear h h1 h2
  generalize coV a b = v at *
  have tok1 := trivial
  go_enter Tryz.func34, Tryz.ntmps34
  go_wp2_with (first | (go_at_call 35; (with_reducible refine ((T1 _).out).mono ?_); rintro e w' ⟨rfl, rfl⟩) | (go_at_call 35; (with_reducible refine ((T2 _).out).mono ?_); rintro e w' ⟨rfl, rfl⟩) | (have _t := tok1; go_at_call 65; (with_reducible refine ((T3 _).out).mono ?_); rintro e w1 ⟨rfl, hb1⟩; clear tok1 _t; have hz1 := hb1.size; (try simp only [sA, sB, sC, sD] at hz1); (try (obtain ⟨kq, qe⟩ := cfAt hb1 (w.heap.size); have qc := kq 0; have qd := kq 1; clear kq; simp [go_sem, *] at qc qd qe)); (try have qf : w.heap.size < w1.heap.size := by omega)))
  go_ret
  refine ⟨rfl, ?_⟩
  exact bel
end
section
open Go.RowKit
set_option linter.unusedVariables false
set_option maxHeartbeats 2000000
set_option maxRecDepth 20000
set_option linter.unusedSimpArgs false
attribute [local go_sem] openAt openUpon
def dbM (a b : Int) : Int := most (1 + 2 * a + 8 * b + a * a) (4 * (1 + a + b))
def dbP (a b : Int) : Int := 15 + 21 * a + 27 * b
def dbQ (a b d : Int) : Int := 4 * d + 5 * a * a * b + 4 * a * (3 * a * a * a + 22 * b * b) + 12 * b * (a * a * a + 8 * b * b) + (a * (5 * a * a * a + 32 * b * b) + 2 * b * (13 * a * a * a + 96 * b * b) + 3 * a * a * (a * a * a + 8 * b * b))
def dbK (a b d : Int) : Int := most (dbP a b) (dbQ a b d)
theorem most_bd {x y M : Int} (hx : 0 ≤ x ∧ x ≤ M) (hy : 0 ≤ y ∧ y ≤ M) : 0 ≤ most x y ∧ most x y ≤ M := by rw [most_eq]; omega
theorem htDoubling_any (A B : Int) (w : World) (hA : -1000 ≤ A ∧ A ≤ 1000) (hB : -10000 ≤ B ∧ B ≤ 10000) : Calls Tryz.prog 101 #[.agg #[.int .i64 A, .int .i64 B]] w fun e w' =>
  e = .returned (.tuple #[.int .i64 (dbM (absI A) (absI B)), .int .i64 (dbK (absI A) (absI B) (absI (coV A B)))]) ∧ Below w.heap.size w w' := by
 have hc := coV_bd hA hB
 have T1 := fun W : World => Lib.hid (l1Abs_any A W (by omega) (by omega))
 have T2 := fun W : World => Lib.hid (l1Abs_any B W (by omega) (by omega))
 have T3 := fun W : World => Lib.hid (l1Abs_any (coV A B) W (by omega) (by omega))
 have T4 := fun W : World => Lib.hid (ecDisc_any A B W hA hB)
 have ha0 := absI_nonneg A
 have hb0 := absI_nonneg B
 have hd0 := absI_nonneg (coV A B)
 have ha1 := absI_le hA.1 hA.2
 have hb1 := absI_le hB.1 hB.2
 have hd1 := absI_le hc.1 hc.2
 have HM := Lib.hid (show dbM (absI A) (absI B) = most (1 + 2 * absI A + 8 * absI B + absI A * absI A) (4 * (1 + absI A + absI B)) from rfl)
 have HK := Lib.hid (show dbK (absI A) (absI B) (absI (coV A B)) = most (dbP (absI A) (absI B)) (dbQ (absI A) (absI B) (absI (coV A B))) from rfl)
 unfold dbP dbQ at HK
 generalize coV A B = C at *
 generalize absI A = a at *
 generalize absI B = b at *
 generalize absI C = d at *
 go_enter Tryz.func101, Tryz.ntmps101
 go_wp2_with fail
 refine wp_open (n := 11) (by kernel_rfl) (by kernel_rfl) (by kernel_rfl) (by kernel_rfl) ?_
 simp only [List.take_succ_cons, List.take_zero]
 apply wpS_quiet
 ·intro γ W hW hp
  refine ⟨rfl, ?_⟩
  go_big_quiet_op
  first | exact rfl
 ·exact locS_const _
 try simp only [Act.put, List.setIfInBounds_toArray, List.set_cons_succ, List.set_cons_zero, Nat.reduceAdd]
 apply wpS_quiet
 ·intro γ W hW hp
  have hs := hW.size
  (try simp only [sA, sB, sC, sD] at hs)
  try (have qc := xcA hW (w.heap.size) 0; simp [go_sem, *] at qc)
  try (have qd := xcA hW (w.heap.size) 1; simp [go_sem, *] at qd)
  clear hW hp
  refine ⟨rfl, ?_⟩
  go_big_quiet_op
  first | exact rfl
 ·exact locS_const _
 try simp only [Act.put, List.setIfInBounds_toArray, List.set_cons_succ, List.set_cons_zero, Nat.reduceAdd]
 apply wpS_quiet
 ·intro γ W hW hp
  refine ⟨rfl, ?_⟩
  go_big_quiet_op
  apply Exists.intro
  refine ⟨fun x => ?_, ?_⟩
  ·(first | (go_at_call 44; (with_reducible exact draw_of_same _ ((T1 _).out))) | (go_at_call 44; (with_reducible exact draw_of_same _ ((T2 _).out))) | (go_at_call 44; (with_reducible exact draw_of_same _ ((T3 _).out))) | (go_at_call 80; (with_reducible exact draw_of _ ((T4 _).out))))
  exact rfl
 ·exact locS_const _
 try simp only [Act.put, List.setIfInBounds_toArray, List.set_cons_succ, List.set_cons_zero, Nat.reduceAdd]
 apply wpS_quiet
 ·intro γ W hW hp
  refine ⟨rfl, ?_⟩
  go_big_quiet_op
  first | exact rfl
 ·exact locS_const _
 try simp only [Act.put, List.setIfInBounds_toArray, List.set_cons_succ, List.set_cons_zero, Nat.reduceAdd]
 apply wpS_quiet
 ·intro γ W hW hp
  have hs := hW.size
  (try simp only [sA, sB, sC, sD] at hs)
  try (have qc := xcA hW (w.heap.size) 0; simp [go_sem, *] at qc)
  try (have qd := xcA hW (w.heap.size) 1; simp [go_sem, *] at qd)
  clear hW hp
  refine ⟨rfl, ?_⟩
  go_big_quiet_op
  first | exact rfl
 ·exact locS_const _
 try simp only [Act.put, List.setIfInBounds_toArray, List.set_cons_succ, List.set_cons_zero, Nat.reduceAdd]
 apply wpS_quiet
 ·intro γ W hW hp
  refine ⟨rfl, ?_⟩
  go_big_quiet_op
  apply Exists.intro
  refine ⟨fun x => ?_, ?_⟩
  ·(first | (go_at_call 44; (with_reducible exact draw_of_same _ ((T1 _).out))) | (go_at_call 44; (with_reducible exact draw_of_same _ ((T2 _).out))) | (go_at_call 44; (with_reducible exact draw_of_same _ ((T3 _).out))) | (go_at_call 80; (with_reducible exact draw_of _ ((T4 _).out))))
  exact rfl
 ·exact locS_const _
 try simp only [Act.put, List.setIfInBounds_toArray, List.set_cons_succ, List.set_cons_zero, Nat.reduceAdd]
 apply wpS_quiet
 ·intro γ W hW hp
  have hs := hW.size
  (try simp only [sA, sB, sC, sD] at hs)
  try (have qc := xcA hW (w.heap.size) 0; simp [go_sem, *] at qc)
  try (have qd := xcA hW (w.heap.size) 1; simp [go_sem, *] at qd)
  clear hW hp
  refine ⟨rfl, ?_⟩
  go_big_quiet_op
  first | exact rfl
 ·exact locS_const _
 try simp only [Act.put, List.setIfInBounds_toArray, List.set_cons_succ, List.set_cons_zero, Nat.reduceAdd]
 apply wpS_quiet
 ·intro γ W hW hp
  refine ⟨rfl, ?_⟩
  go_big_quiet_op
  apply Exists.intro
  refine ⟨fun x => ?_, ?_⟩
  ·(first | (go_at_call 44; (with_reducible exact draw_of_same _ ((T1 _).out))) | (go_at_call 44; (with_reducible exact draw_of_same _ ((T2 _).out))) | (go_at_call 44; (with_reducible exact draw_of_same _ ((T3 _).out))) | (go_at_call 80; (with_reducible exact draw_of _ ((T4 _).out))))
  exact rfl
 ·exact locS_const _
 try simp only [Act.put, List.setIfInBounds_toArray, List.set_cons_succ, List.set_cons_zero, Nat.reduceAdd]
 apply wpS_quiet
 ·intro γ W hW hp
  refine ⟨rfl, ?_⟩
  go_big_quiet_op
  apply Exists.intro
  refine ⟨fun x => ?_, ?_⟩
  ·(first | (go_at_call 44; (with_reducible exact draw_of_same _ ((T1 _).out))) | (go_at_call 44; (with_reducible exact draw_of_same _ ((T2 _).out))) | (go_at_call 44; (with_reducible exact draw_of_same _ ((T3 _).out))) | (go_at_call 80; (with_reducible exact draw_of _ ((T4 _).out))))
  exact rfl
 ·exact locS_const _
 try simp only [Act.put, List.setIfInBounds_toArray, List.set_cons_succ, List.set_cons_zero, Nat.reduceAdd]
 apply wpS_quiet
 ·intro γ W hW hp
  refine ⟨rfl, ?_⟩
  go_big_quiet_op
  first | exact rfl
 ·exact locS_const _
 try simp only [Act.put, List.setIfInBounds_toArray, List.set_cons_succ, List.set_cons_zero, Nat.reduceAdd]
 apply wpS_quiet
 ·intro γ W hW hp
  refine ⟨rfl, ?_⟩
  go_big_quiet_op
  first | exact rfl
 ·exact locS_const _
 try simp only [Act.put, List.setIfInBounds_toArray, List.set_cons_succ, List.set_cons_zero, Nat.reduceAdd]
 apply wpS_end
 intro γ w1 hb1 hG1 hA1
 clear hG1 hA1
 simp only [List.drop_succ_cons, List.drop_zero]
 have hz1 := hb1.size
 (try simp only [sA, sB, sC, sD] at hz1)
 (try (obtain ⟨kq, qg⟩ := cfAt hb1 (w.heap.size); have qe := kq 0; have qf := kq 1; clear kq; simp [go_sem, *] at qe qf qg))
 (try have qh : w.heap.size < w1.heap.size := by omega)
 clear T1 T2 T3 T4
 have qn : 0 ≤ (a * a) ∧ (a * a) ≤ 1000000 := by have := pB (x := a) (y := a) (X := 1000) (Y := 1000) (by omega) (by omega); omega
 have qo : 0 ≤ ((5 * a) * a) ∧ ((5 * a) * a) ≤ 5000000 := by have := pB (x := (5 * a)) (y := a) (X := 5000) (Y := 1000) (by omega) (by omega); omega
 have qq : 0 ≤ (((5 * a) * a) * b) ∧ (((5 * a) * a) * b) ≤ 50000000000 := by have := pB (x := ((5 * a) * a)) (y := b) (X := 5000000) (Y := 10000) (by omega) (by omega); omega
 have qr : 0 ≤ ((3 * a) * a) ∧ ((3 * a) * a) ≤ 3000000 := by have := pB (x := (3 * a)) (y := a) (X := 3000) (Y := 1000) (by omega) (by omega); omega
 have qt : 0 ≤ (((3 * a) * a) * a) ∧ (((3 * a) * a) * a) ≤ 3000000000 := by have := pB (x := ((3 * a) * a)) (y := a) (X := 3000000) (Y := 1000) (by omega) (by omega); omega
 have qu : 0 ≤ ((22 * b) * b) ∧ ((22 * b) * b) ≤ 2200000000 := by have := pB (x := (22 * b)) (y := b) (X := 220000) (Y := 10000) (by omega) (by omega); omega
 have qv : 0 ≤ ((4 * a) * ((((3 * a) * a) * a) + ((22 * b) * b))) ∧ ((4 * a) * ((((3 * a) * a) * a) + ((22 * b) * b))) ≤ 20800000000000 := by have := pB (x := (4 * a)) (y := ((((3 * a) * a) * a) + ((22 * b) * b))) (X := 4000) (Y := 5200000000) (by omega) (by omega); omega
 have qw : 0 ≤ (a * a) ∧ (a * a) ≤ 1000000 := by have := pB (x := a) (y := a) (X := 1000) (Y := 1000) (by omega) (by omega); omega
 have qx : 0 ≤ ((a * a) * a) ∧ ((a * a) * a) ≤ 1000000000 := by have := pB (x := (a * a)) (y := a) (X := 1000000) (Y := 1000) (by omega) (by omega); omega
 have qy : 0 ≤ ((8 * b) * b) ∧ ((8 * b) * b) ≤ 800000000 := by have := pB (x := (8 * b)) (y := b) (X := 80000) (Y := 10000) (by omega) (by omega); omega
 have qi : 0 ≤ ((12 * b) * (((a * a) * a) + ((8 * b) * b))) ∧ ((12 * b) * (((a * a) * a) + ((8 * b) * b))) ≤ 216000000000000 := by have := pB (x := (12 * b)) (y := (((a * a) * a) + ((8 * b) * b))) (X := 120000) (Y := 1800000000) (by omega) (by omega); omega
 have qz : 0 ≤ ((5 * a) * a) ∧ ((5 * a) * a) ≤ 5000000 := by have := pB (x := (5 * a)) (y := a) (X := 5000) (Y := 1000) (by omega) (by omega); omega
 have xc : 0 ≤ (((5 * a) * a) * a) ∧ (((5 * a) * a) * a) ≤ 5000000000 := by have := pB (x := ((5 * a) * a)) (y := a) (X := 5000000) (Y := 1000) (by omega) (by omega); omega
 have xd : 0 ≤ ((32 * b) * b) ∧ ((32 * b) * b) ≤ 3200000000 := by have := pB (x := (32 * b)) (y := b) (X := 320000) (Y := 10000) (by omega) (by omega); omega
 have xe : 0 ≤ (a * ((((5 * a) * a) * a) + ((32 * b) * b))) ∧ (a * ((((5 * a) * a) * a) + ((32 * b) * b))) ≤ 8200000000000 := by have := pB (x := a) (y := ((((5 * a) * a) * a) + ((32 * b) * b))) (X := 1000) (Y := 8200000000) (by omega) (by omega); omega
 have xf : 0 ≤ ((13 * a) * a) ∧ ((13 * a) * a) ≤ 13000000 := by have := pB (x := (13 * a)) (y := a) (X := 13000) (Y := 1000) (by omega) (by omega); omega
 have xg : 0 ≤ (((13 * a) * a) * a) ∧ (((13 * a) * a) * a) ≤ 13000000000 := by have := pB (x := ((13 * a) * a)) (y := a) (X := 13000000) (Y := 1000) (by omega) (by omega); omega
 have xh : 0 ≤ ((96 * b) * b) ∧ ((96 * b) * b) ≤ 9600000000 := by have := pB (x := (96 * b)) (y := b) (X := 960000) (Y := 10000) (by omega) (by omega); omega
 have xi : 0 ≤ ((2 * b) * ((((13 * a) * a) * a) + ((96 * b) * b))) ∧ ((2 * b) * ((((13 * a) * a) * a) + ((96 * b) * b))) ≤ 452000000000000 := by have := pB (x := (2 * b)) (y := ((((13 * a) * a) * a) + ((96 * b) * b))) (X := 20000) (Y := 22600000000) (by omega) (by omega); omega
 have xj : 0 ≤ ((3 * a) * a) ∧ ((3 * a) * a) ≤ 3000000 := by have := pB (x := (3 * a)) (y := a) (X := 3000) (Y := 1000) (by omega) (by omega); omega
 have qj : 0 ≤ (a * a) ∧ (a * a) ≤ 1000000 := by have := pB (x := a) (y := a) (X := 1000) (Y := 1000) (by omega) (by omega); omega
 have qk : 0 ≤ ((a * a) * a) ∧ ((a * a) * a) ≤ 1000000000 := by have := pB (x := (a * a)) (y := a) (X := 1000000) (Y := 1000) (by omega) (by omega); omega
 have ql : 0 ≤ ((8 * b) * b) ∧ ((8 * b) * b) ≤ 800000000 := by have := pB (x := (8 * b)) (y := b) (X := 80000) (Y := 10000) (by omega) (by omega); omega
 have qm : 0 ≤ (((3 * a) * a) * (((a * a) * a) + ((8 * b) * b))) ∧ (((3 * a) * a) * (((a * a) * a) + ((8 * b) * b))) ≤ 5400000000000000 := by have := pB (x := ((3 * a) * a)) (y := (((a * a) * a) + ((8 * b) * b))) (X := 3000000) (Y := 1800000000) (by omega) (by omega); omega
 go_wp2_with (first | (go_at_call 69; refine (l1Most_any _ _ _).mono ?_; rintro e w' ⟨rfl, rfl⟩))
 go_ret2
 refine ⟨by rw [HM.out, HK.out]; rfl, ?_⟩
 exact bel
theorem max_most (w : World) (ts : Array TypeId) (t : TypeId) (x y : Int) : (Builtin.max_ ts t #[.int .i64 x, .int .i64 y]).run Tryz.prog w = .ok (.int .i64 (most x y)) w := by
 have h : (if y > x then y else x) = most x y := by unfold most; split <;> split <;> omega
 simp [Builtin.max_, Builtin.max2]
 simpa using h
theorem max_abs (w : World) (ts : Array TypeId) (t : TypeId) (x : Int) : (Builtin.max_ ts t #[.int .i64 x, .int .i64 (-x)]).run Tryz.prog w = .ok (.int .i64 (absI x)) w := by
 rw [max_most]
 congr 2; unfold most absI; split <;> omega
theorem doublingBounds_any (A B : Int) (w : World) (hA : -1000 ≤ A ∧ A ≤ 1000) (hB : -10000 ≤ B ∧ B ≤ 10000) : Calls Tryz.prog 107 #[.agg #[.int .i64 A, .int .i64 B]] w fun e w' =>
  e = .returned (.tuple #[.int .i64 (dbM (absI A) (absI B)), .int .i64 (dbK (absI A) (absI B) (absI (coV A B)))]) ∧ Below w.heap.size w w' := by
 have hc := coV_bd hA hB
 have T4 := fun W : World => Lib.hid (core_any A B W hA hB)
 have ha0 := absI_nonneg A
 have hb0 := absI_nonneg B
 have hd0 := absI_nonneg (coV A B)
 have ha1 := absI_le hA.1 hA.2
 have hb1 := absI_le hB.1 hB.2
 have hd1 := absI_le hc.1 hc.2
 have HM := Lib.hid (show dbM (absI A) (absI B) = most (1 + 2 * absI A + 8 * absI B + absI A * absI A) (4 * (1 + absI A + absI B)) from rfl)
 have HK := Lib.hid (show dbK (absI A) (absI B) (absI (coV A B)) = most (dbP (absI A) (absI B)) (dbQ (absI A) (absI B) (absI (coV A B))) from rfl)
 have hx1 := fun (w : World) (ts : Array TypeId) (t : TypeId) => max_abs w ts t A
 have hx2 := fun (w : World) (ts : Array TypeId) (t : TypeId) => max_abs w ts t B
 have hx3 := fun (w : World) (ts : Array TypeId) (t : TypeId) => max_abs w ts t (coV A B)
 generalize coV A B = C at *
 generalize absI A = a at *
 generalize absI B = b at *
 generalize absI C = d at *
 go_enter Tryz.func107, Tryz.ntmps107
 go_wp2_with fail
 refine wp_open (n := 20) (by kernel_rfl) (by kernel_rfl) (by kernel_rfl) (by kernel_rfl) ?_
 simp only [List.take_succ_cons, List.take_zero]
 apply wpS_quiet
 ·intro γ W hW hp
  refine ⟨rfl, ?_⟩
  go_big_quiet_op
  first | exact rfl
 ·exact locS_const _
 try simp only [Act.put, List.setIfInBounds_toArray, List.set_cons_succ, List.set_cons_zero, Nat.reduceAdd]
 apply wpS_quiet
 ·intro γ W hW hp
  have hs := hW.size
  (try simp only [sA, sB, sC, sD] at hs)
  try (have qc := xcA hW (w.heap.size) 0; simp [go_sem, *] at qc)
  try (have qd := xcA hW (w.heap.size) 1; simp [go_sem, *] at qd)
  clear hW hp
  refine ⟨rfl, ?_⟩
  go_big_quiet_op
  first | exact rfl
 ·exact locS_const _
 try simp only [Act.put, List.setIfInBounds_toArray, List.set_cons_succ, List.set_cons_zero, Nat.reduceAdd]
 apply wpS_quiet
 ·intro γ W hW hp
  refine ⟨rfl, ?_⟩
  go_big_quiet_op
  first | exact rfl
 ·exact locS_const _
 try simp only [Act.put, List.setIfInBounds_toArray, List.set_cons_succ, List.set_cons_zero, Nat.reduceAdd]
 apply wpS_quiet
 ·intro γ W hW hp
  have hs := hW.size
  (try simp only [sA, sB, sC, sD] at hs)
  try (have qc := xcA hW (w.heap.size) 0; simp [go_sem, *] at qc)
  try (have qd := xcA hW (w.heap.size) 1; simp [go_sem, *] at qd)
  clear hW hp
  refine ⟨rfl, ?_⟩
  go_big_quiet_op
  first | exact rfl
 ·exact locS_const _
 try simp only [Act.put, List.setIfInBounds_toArray, List.set_cons_succ, List.set_cons_zero, Nat.reduceAdd]
 apply wpS_quiet
 ·intro γ W hW hp
  refine ⟨rfl, ?_⟩
  go_big_quiet_op
  first | exact rfl
 ·exact locS_const _
 try simp only [Act.put, List.setIfInBounds_toArray, List.set_cons_succ, List.set_cons_zero, Nat.reduceAdd]
 apply wpS_quiet
 ·intro γ W hW hp
  refine ⟨rfl, ?_⟩
  go_big_quiet_op
  first | exact rfl
 ·exact locS_const _
 try simp only [Act.put, List.setIfInBounds_toArray, List.set_cons_succ, List.set_cons_zero, Nat.reduceAdd]
 apply wpS_quiet
 ·intro γ W hW hp
  refine ⟨rfl, ?_⟩
  go_big_quiet_op
  first | exact rfl
 ·exact locS_const _
 try simp only [Act.put, List.setIfInBounds_toArray, List.set_cons_succ, List.set_cons_zero, Nat.reduceAdd]
 apply wpS_quiet
 ·intro γ W hW hp
  have hs := hW.size
  (try simp only [sA, sB, sC, sD] at hs)
  try (have qc := xcA hW (w.heap.size) 0; simp [go_sem, *] at qc)
  try (have qd := xcA hW (w.heap.size) 1; simp [go_sem, *] at qd)
  clear hW hp
  refine ⟨rfl, ?_⟩
  go_big_quiet_op
  first | exact rfl
 ·exact locS_const _
 try simp only [Act.put, List.setIfInBounds_toArray, List.set_cons_succ, List.set_cons_zero, Nat.reduceAdd]
 apply wpS_quiet
 ·intro γ W hW hp
  refine ⟨rfl, ?_⟩
  go_big_quiet_op
  first | exact rfl
 ·exact locS_const _
 try simp only [Act.put, List.setIfInBounds_toArray, List.set_cons_succ, List.set_cons_zero, Nat.reduceAdd]
 apply wpS_quiet
 ·intro γ W hW hp
  have hs := hW.size
  (try simp only [sA, sB, sC, sD] at hs)
  try (have qc := xcA hW (w.heap.size) 0; simp [go_sem, *] at qc)
  try (have qd := xcA hW (w.heap.size) 1; simp [go_sem, *] at qd)
  clear hW hp
  refine ⟨rfl, ?_⟩
  go_big_quiet_op
  first | exact rfl
 ·exact locS_const _
 try simp only [Act.put, List.setIfInBounds_toArray, List.set_cons_succ, List.set_cons_zero, Nat.reduceAdd]
 apply wpS_quiet
 ·intro γ W hW hp
  refine ⟨rfl, ?_⟩
  go_big_quiet_op
  first | exact rfl
 ·exact locS_const _
 try simp only [Act.put, List.setIfInBounds_toArray, List.set_cons_succ, List.set_cons_zero, Nat.reduceAdd]
 apply wpS_quiet
 ·intro γ W hW hp
  refine ⟨rfl, ?_⟩
  go_big_quiet_op
  first | exact rfl
 ·exact locS_const _
 try simp only [Act.put, List.setIfInBounds_toArray, List.set_cons_succ, List.set_cons_zero, Nat.reduceAdd]
 apply wpS_quiet
 ·intro γ W hW hp
  have hs := hW.size
  (try simp only [sA, sB, sC, sD] at hs)
  try (have qc := xcA hW (w.heap.size) 0; simp [go_sem, *] at qc)
  try (have qd := xcA hW (w.heap.size) 1; simp [go_sem, *] at qd)
  clear hW hp
  refine ⟨rfl, ?_⟩
  go_big_quiet_op
  first | exact rfl
 ·exact locS_const _
 try simp only [Act.put, List.setIfInBounds_toArray, List.set_cons_succ, List.set_cons_zero, Nat.reduceAdd]
 apply wpS_quiet
 ·intro γ W hW hp
  refine ⟨rfl, ?_⟩
  go_big_quiet_op
  apply Exists.intro
  refine ⟨fun x => ?_, ?_⟩
  ·(first | (go_at_call 65; (with_reducible exact draw_of _ ((T4 _).out))))
  exact rfl
 ·exact locS_const _
 try simp only [Act.put, List.setIfInBounds_toArray, List.set_cons_succ, List.set_cons_zero, Nat.reduceAdd]
 apply wpS_quiet
 ·intro γ W hW hp
  have hs := hW.size
  (try simp only [sA, sB, sC, sD] at hs)
  try (have qc := xcA hW (w.heap.size) 0; simp [go_sem, *] at qc)
  try (have qd := xcA hW (w.heap.size) 1; simp [go_sem, *] at qd)
  clear hW hp
  refine ⟨rfl, ?_⟩
  go_big_quiet_op
  first | exact rfl
 ·exact locS_const _
 try simp only [Act.put, List.setIfInBounds_toArray, List.set_cons_succ, List.set_cons_zero, Nat.reduceAdd]
 apply wpS_quiet
 ·intro γ W hW hp
  refine ⟨rfl, ?_⟩
  go_big_quiet_op
  apply Exists.intro
  refine ⟨fun x => ?_, ?_⟩
  ·(first | (go_at_call 65; (with_reducible exact draw_of _ ((T4 _).out))))
  exact rfl
 ·exact locS_const _
 try simp only [Act.put, List.setIfInBounds_toArray, List.set_cons_succ, List.set_cons_zero, Nat.reduceAdd]
 apply wpS_quiet
 ·intro γ W hW hp
  refine ⟨rfl, ?_⟩
  go_big_quiet_op
  first | exact rfl
 ·exact locS_const _
 try simp only [Act.put, List.setIfInBounds_toArray, List.set_cons_succ, List.set_cons_zero, Nat.reduceAdd]
 apply wpS_quiet
 ·intro γ W hW hp
  refine ⟨rfl, ?_⟩
  go_big_quiet_op
  first | exact rfl
 ·exact locS_const _
 try simp only [Act.put, List.setIfInBounds_toArray, List.set_cons_succ, List.set_cons_zero, Nat.reduceAdd]
 apply wpS_quiet
 ·intro γ W hW hp
  refine ⟨rfl, ?_⟩
  go_big_quiet_op
  first | exact rfl
 ·exact locS_const _
 try simp only [Act.put, List.setIfInBounds_toArray, List.set_cons_succ, List.set_cons_zero, Nat.reduceAdd]
 apply wpS_quiet
 ·intro γ W hW hp
  refine ⟨rfl, ?_⟩
  go_big_quiet_op
  first | exact rfl
 ·exact locS_const _
 try simp only [Act.put, List.setIfInBounds_toArray, List.set_cons_succ, List.set_cons_zero, Nat.reduceAdd]
 apply wpS_end
 intro γ w1 hb1 hG1 hA1
 clear hG1 hA1
 simp only [List.drop_succ_cons, List.drop_zero]
 have hz1 := hb1.size
 (try simp only [sA, sB, sC, sD] at hz1)
 (try (obtain ⟨kq, qg⟩ := cfAt hb1 (w.heap.size); have qe := kq 0; have qf := kq 1; clear kq; simp [go_sem, *] at qe qf qg))
 (try have qh : w.heap.size < w1.heap.size := by omega)
 clear T4 hx1 hx2 hx3
 have hmx := max_most
 have qo : 0 ≤ (a * a) ∧ (a * a) ≤ 1000000 := by have := pB (x := a) (y := a) (X := 1000) (Y := 1000) (by omega) (by omega); omega
 have qq : 0 ≤ ((4 * a) * a) ∧ ((4 * a) * a) ≤ 4000000 := by have := pB (x := (4 * a)) (y := a) (X := 4000) (Y := 1000) (by omega) (by omega); omega
 have qr : 0 ≤ (((4 * a) * a) * b) ∧ (((4 * a) * a) * b) ≤ 40000000000 := by have := pB (x := ((4 * a) * a)) (y := b) (X := 4000000) (Y := 10000) (by omega) (by omega); omega
 have qt : 0 ≤ ((3 * a) * a) ∧ ((3 * a) * a) ≤ 3000000 := by have := pB (x := (3 * a)) (y := a) (X := 3000) (Y := 1000) (by omega) (by omega); omega
 have qu : 0 ≤ (((3 * a) * a) * a) ∧ (((3 * a) * a) * a) ≤ 3000000000 := by have := pB (x := ((3 * a) * a)) (y := a) (X := 3000000) (Y := 1000) (by omega) (by omega); omega
 have qv : 0 ≤ ((22 * b) * b) ∧ ((22 * b) * b) ≤ 2200000000 := by have := pB (x := (22 * b)) (y := b) (X := 220000) (Y := 10000) (by omega) (by omega); omega
 have qw : 0 ≤ ((4 * a) * ((((3 * a) * a) * a) + ((22 * b) * b))) ∧ ((4 * a) * ((((3 * a) * a) * a) + ((22 * b) * b))) ≤ 20800000000000 := by have := pB (x := (4 * a)) (y := ((((3 * a) * a) * a) + ((22 * b) * b))) (X := 4000) (Y := 5200000000) (by omega) (by omega); omega
 have qx : 0 ≤ (a * a) ∧ (a * a) ≤ 1000000 := by have := pB (x := a) (y := a) (X := 1000) (Y := 1000) (by omega) (by omega); omega
 have qy : 0 ≤ ((a * a) * a) ∧ ((a * a) * a) ≤ 1000000000 := by have := pB (x := (a * a)) (y := a) (X := 1000000) (Y := 1000) (by omega) (by omega); omega
 have qz : 0 ≤ ((8 * b) * b) ∧ ((8 * b) * b) ≤ 800000000 := by have := pB (x := (8 * b)) (y := b) (X := 80000) (Y := 10000) (by omega) (by omega); omega
 have qi : 0 ≤ ((12 * b) * (((a * a) * a) + ((8 * b) * b))) ∧ ((12 * b) * (((a * a) * a) + ((8 * b) * b))) ≤ 216000000000000 := by have := pB (x := (12 * b)) (y := (((a * a) * a) + ((8 * b) * b))) (X := 120000) (Y := 1800000000) (by omega) (by omega); omega
 have xc : 0 ≤ (a * a) ∧ (a * a) ≤ 1000000 := by have := pB (x := a) (y := a) (X := 1000) (Y := 1000) (by omega) (by omega); omega
 have xd : 0 ≤ ((a * a) * b) ∧ ((a * a) * b) ≤ 10000000000 := by have := pB (x := (a * a)) (y := b) (X := 1000000) (Y := 10000) (by omega) (by omega); omega
 have xe : 0 ≤ ((5 * a) * a) ∧ ((5 * a) * a) ≤ 5000000 := by have := pB (x := (5 * a)) (y := a) (X := 5000) (Y := 1000) (by omega) (by omega); omega
 have xf : 0 ≤ (((5 * a) * a) * a) ∧ (((5 * a) * a) * a) ≤ 5000000000 := by have := pB (x := ((5 * a) * a)) (y := a) (X := 5000000) (Y := 1000) (by omega) (by omega); omega
 have xg : 0 ≤ ((32 * b) * b) ∧ ((32 * b) * b) ≤ 3200000000 := by have := pB (x := (32 * b)) (y := b) (X := 320000) (Y := 10000) (by omega) (by omega); omega
 have xh : 0 ≤ (a * ((((5 * a) * a) * a) + ((32 * b) * b))) ∧ (a * ((((5 * a) * a) * a) + ((32 * b) * b))) ≤ 8200000000000 := by have := pB (x := a) (y := ((((5 * a) * a) * a) + ((32 * b) * b))) (X := 1000) (Y := 8200000000) (by omega) (by omega); omega
 have xi : 0 ≤ ((13 * a) * a) ∧ ((13 * a) * a) ≤ 13000000 := by have := pB (x := (13 * a)) (y := a) (X := 13000) (Y := 1000) (by omega) (by omega); omega
 have xj : 0 ≤ (((13 * a) * a) * a) ∧ (((13 * a) * a) * a) ≤ 13000000000 := by have := pB (x := ((13 * a) * a)) (y := a) (X := 13000000) (Y := 1000) (by omega) (by omega); omega
 have xk : 0 ≤ ((96 * b) * b) ∧ ((96 * b) * b) ≤ 9600000000 := by have := pB (x := (96 * b)) (y := b) (X := 960000) (Y := 10000) (by omega) (by omega); omega
 have qj : 0 ≤ ((2 * b) * ((((13 * a) * a) * a) + ((96 * b) * b))) ∧ ((2 * b) * ((((13 * a) * a) * a) + ((96 * b) * b))) ≤ 452000000000000 := by have := pB (x := (2 * b)) (y := ((((13 * a) * a) * a) + ((96 * b) * b))) (X := 20000) (Y := 22600000000) (by omega) (by omega); omega
 have qk : 0 ≤ ((3 * a) * a) ∧ ((3 * a) * a) ≤ 3000000 := by have := pB (x := (3 * a)) (y := a) (X := 3000) (Y := 1000) (by omega) (by omega); omega
 have ql : 0 ≤ ((a * a) * a) ∧ ((a * a) * a) ≤ 1000000000 := by have := pB (x := (a * a)) (y := a) (X := 1000000) (Y := 1000) (by omega) (by omega); omega
 have qm : 0 ≤ ((8 * b) * b) ∧ ((8 * b) * b) ≤ 800000000 := by have := pB (x := (8 * b)) (y := b) (X := 80000) (Y := 10000) (by omega) (by omega); omega
 have qn : 0 ≤ (((3 * a) * a) * (((a * a) * a) + ((8 * b) * b))) ∧ (((3 * a) * a) * (((a * a) * a) + ((8 * b) * b))) ≤ 5400000000000000 := by have := pB (x := ((3 * a) * a)) (y := (((a * a) * a) + ((8 * b) * b))) (X := 3000000) (Y := 1800000000) (by omega) (by omega); omega
 go_wp2_with fail
 all_goals
  go_ret2
  refine ⟨?_, ?_⟩
  ·have e1 : 12 + 16 * a + 3 + 5 * a + 27 * b = dbP a b := by unfold dbP; omega
   have e2 : 4 * d + 4 * a * a * b + 4 * a * (3 * a * a * a + 22 * b * b) + 12 * b * (a * a * a + 8 * b * b) + (a * a * b + a * (5 * a * a * a + 32 * b * b) + 2 * b * (13 * a * a * a + 96 * b * b) + 3 * a * a * (a * a * a + 8 * b * b)) = dbQ a b d := by unfold dbQ; grind
   rw [HM.out, HK.out, ← e1, ← e2]
   rfl
  exact bel
end
end Go.Proofs.YtnkmgpmehkholaaGreat
