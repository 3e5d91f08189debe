/- Fractions under the four operations, and the program's reckoner that remembers a failure: contracts of both sides. -/
import Derived.Test.YtnemnkbcbokafaaFrac
import Derived.Test.YtnemnkbcbokafaaCalc
import Derived.Test.YtnemnkbcbokafaaDrA
import Derived.Deep.DrawnRows
namespace Go.Proofs.Ytnemnkbcbokafaa
open Go.RowKit
set_option linter.unusedVariables false
set_option maxHeartbeats 4000000
set_option maxRecDepth 20000
set_option linter.unusedSimpArgs false

/-! ### Plain words -/
def prF (n1 d1 n2 d2 : Int) : Int × Int × Bool := mkF (n1 * n2) (d1 * d2)
def suF (n1 d1 n2 d2 : Int) : Int × Int × Bool := mkF (n1 * d2 + n2 * d1) (d1 * d2)
def diF (n1 d1 n2 d2 : Int) : Int × Int × Bool := mkF (n1 * d2 - n2 * d1) (d1 * d2)
def quF (n1 d1 n2 d2 : Int) : Int × Int × Bool := if n2 = 0 then (0, 0, false) else mkF (n1 * d2) (d1 * n2)
theorem mkF_frB {n d : Int} (h : (mkF n d).2.2 = true) : frB (mkF n d).1 (mkF n d).2.1 = true := by
  unfold mkF at h ⊢
  split at h
  · rename_i hh; rw [if_pos hh]; exact hh
  · cases h
theorem mkF_zero {n d : Int} (h : (mkF n d).2.2 = false) : mkF n d = (0, 0, false) := by
  unfold mkF at h ⊢
  split at h
  · cases h
  · rename_i hh; rw [if_neg hh]
theorem frB_one {a : Int} (h1 : -1000000000 ≤ a) (h2 : a ≤ 1000000000) : frB a 1 = true := by
  simp [frB, inB, gcdI, h1, h2]
theorem mkF_whole {a : Int} (h1 : -1000000000 ≤ a) (h2 : a ≤ 1000000000) : mkF a 1 = (a, 1, true) := by
  have e1 : mkN a 1 = a := by simp [mkN, gcdI]
  have e2 : mkD a 1 = 1 := by simp [mkD, gcdI]
  simp [mkF, e1, e2, frB_one h1 h2]
theorem frB_mul {n1 d1 n2 d2 : Int} (h1 : frB n1 d1 = true) (h2 : frB n2 d2 = true) : (-1000000000000000000 ≤ n1 * n2 ∧ n1 * n2 ≤ 1000000000000000000) ∧ (-1000000000000000000 ≤ n1 * d2 ∧ n1 * d2 ≤ 1000000000000000000) ∧
    (-1000000000000000000 ≤ n2 * d1 ∧ n2 * d1 ≤ 1000000000000000000) ∧ (-1000000000000000000 ≤ d1 * n2 ∧ d1 * n2 ≤ 1000000000000000000) ∧ 1 ≤ d1 * d2 ∧ d1 * d2 ≤ 1000000000000000000 ∧ (n2 ≠ 0 → d1 * n2 ≠ 0) := by
  have b1 := frB_bd h1
  have b2 := frB_bd h2
  have m1 := mul_bd (a := n1) (b := n2) (A := 1000000000) (B := 1000000000) (by omega) (by omega)
  have m2 := mul_bd (a := n1) (b := d2) (A := 1000000000) (B := 1000000000) (by omega) (by omega)
  have m3 := mul_bd (a := n2) (b := d1) (A := 1000000000) (B := 1000000000) (by omega) (by omega)
  have m4 := mul_bd (a := d1) (b := n2) (A := 1000000000) (B := 1000000000) (by omega) (by omega)
  have m5 := mul_bd (a := d1) (b := d2) (A := 1000000000) (B := 1000000000) (by omega) (by omega)
  have p : 0 < d1 * d2 := Int.mul_pos (by omega) (by omega)
  refine ⟨by omega, by omega, by omega, by omega, by omega, by omega, fun h e => ?_⟩
  rcases Int.mul_eq_zero.1 e with x | x <;> omega
def stN (v : Bool) (f : Int × Int × Bool) : Int := if (v && f.2.2) = true then f.1 else 0
def stD (v : Bool) (f : Int × Int × Bool) : Int := if (v && f.2.2) = true then f.2.1 else 1
theorem st_frB (v : Bool) (n d : Int) : frB (stN v (mkF n d)) (stD v (mkF n d)) = true := by
  unfold stN stD
  split
  · rename_i h; simp only [Bool.and_eq_true] at h; exact mkF_frB h.2
  · exact frB_one (by omega) (by omega)
theorem quF_frB (v : Bool) (n1 d1 n2 d2 : Int) : frB (stN v (quF n1 d1 n2 d2)) (stD v (quF n1 d1 n2 d2)) = true := by
  unfold quF
  split
  · simp only [stN, stD, Bool.and_false]; exact frB_one (by omega) (by omega)
  · exact st_frB v _ _

/-! ### Contracts: the reference's four operations -/
theorem frInt_any (a : Int) (w : World) : Calls Try.prog 65 #[.int .i64 a] w fun e w' => e = .returned (.agg #[.int .i64 a, .int .i64 1]) ∧ Below w.heap.size w w' := by
  go_enter Try.func65, Try.ntmps65
  go_wp2
  refine bodyPost_ret (v := _) (by simp [results, Try.results65, go_sem, *]) rfl ⟨rfl, ?_⟩
  repeat' first | (with_reducible first | apply zRf | assumption | apply zDn | apply zDr | apply zAl | apply zSt | refine zVi (by assumption) ?_ ?_) | go_size

/-! ### The program's four operations -/
theorem ProductOf_any {n1 d1 n2 d2 : Int} (w : World) (h1 : frB n1 d1 = true) (h2 : frB n2 d2 = true) : Calls Try.prog 80 #[.agg #[.int .i64 n1, .int .i64 d1], .agg #[.int .i64 n2, .int .i64 d2]] w fun e w' =>
    e = .returned (.tuple #[.agg #[.int .i64 (prF n1 d1 n2 d2).1, .int .i64 (prF n1 d1 n2 d2).2.1], .bool (prF n1 d1 n2 d2).2.2]) ∧ Below w.heap.size w w' := by
  have m := frB_mul h1 h2
  have FR := fun W : World => Lib.hid (isFraction_any n1 d1 W)
  have FR2 := fun W : World => Lib.hid (isFraction_any n2 d2 W)
  rw [h1] at FR
  rw [h2] at FR2
  unfold prF
  clear h1 h2
  have tok1 : True := trivial
  have tok2 : True := trivial
  have tok3 : True := trivial
  go_enter Try.func80, Try.ntmps80
  go_wp2_with (first | (have _t := tok1; go_at_call 39; refine ((FR _).out).mono ?_; rintro e w1 ⟨rfl, hb1⟩; clear tok1 _t; have hz1 := hb1.size; (try simp only [World.size_alloc, World.size_setCell, World.size_drew, World.size_drewN'] at hz1); (try (have kq := cellAt hb1 (w.heap.size) (by go_size); have k1_w_0_0 := kq 0; have k1_w_0_1 := kq 1; clear kq; have f1_w_0 := frozAt hb1 (w.heap.size) (by go_size); simp [go_sem, *] at k1_w_0_0 k1_w_0_1 f1_w_0)); (try have l1_w_0 : w.heap.size < w1.heap.size := by omega); (try (have kq := cellAt hb1 (w.heap.size + 1) (by go_size); have k1_w_1_0 := kq 0; have k1_w_1_1 := kq 1; clear kq; have f1_w_1 := frozAt hb1 (w.heap.size + 1) (by go_size); simp [go_sem, *] at k1_w_1_0 k1_w_1_1 f1_w_1)); (try have l1_w_1 : w.heap.size + 1 < w1.heap.size := by omega); (try (have kq := cellAt hb1 (w.heap.size + 1 + 1) (by go_size); have k1_w_2_0 := kq 0; have k1_w_2_1 := kq 1; clear kq; have f1_w_2 := frozAt hb1 (w.heap.size + 1 + 1) (by go_size); simp [go_sem, *] at k1_w_2_0 k1_w_2_1 f1_w_2)); (try have l1_w_2 : w.heap.size + 1 + 1 < w1.heap.size := by omega)) | (have _t := tok2; go_at_call 39; refine ((FR2 _).out).mono ?_; rintro e w2 ⟨rfl, hb2⟩; clear tok2 _t; have hz2 := hb2.size; (try simp only [World.size_alloc, World.size_setCell, World.size_drew, World.size_drewN'] at hz2); (try (have kq := cellAt hb2 (w.heap.size) (by go_size); have k2_w_0_0 := kq 0; have k2_w_0_1 := kq 1; clear kq; have f2_w_0 := frozAt hb2 (w.heap.size) (by go_size); simp [go_sem, *] at k2_w_0_0 k2_w_0_1 f2_w_0)); (try have l2_w_0 : w.heap.size < w2.heap.size := by omega); (try (have kq := cellAt hb2 (w.heap.size + 1) (by go_size); have k2_w_1_0 := kq 0; have k2_w_1_1 := kq 1; clear kq; have f2_w_1 := frozAt hb2 (w.heap.size + 1) (by go_size); simp [go_sem, *] at k2_w_1_0 k2_w_1_1 f2_w_1)); (try have l2_w_1 : w.heap.size + 1 < w2.heap.size := by omega); (try (have kq := cellAt hb2 (w.heap.size + 1 + 1) (by go_size); have k2_w_2_0 := kq 0; have k2_w_2_1 := kq 1; clear kq; have f2_w_2 := frozAt hb2 (w.heap.size + 1 + 1) (by go_size); simp [go_sem, *] at k2_w_2_0 k2_w_2_1 f2_w_2)); (try have l2_w_2 : w.heap.size + 1 + 1 < w2.heap.size := by omega); (try clear k1_w_0_0 k1_w_0_1 f1_w_0); (try clear l1_w_0); (try clear k1_w_1_0 k1_w_1_1 f1_w_1); (try clear l1_w_1); (try clear k1_w_2_0 k1_w_2_1 f1_w_2); (try clear l1_w_2)) | (have _t := tok3; go_at_call 50; refine (makeFraction_any _ _ _ (by omega) (by omega) (by omega) (by omega) (by omega)).mono ?_; rintro e w3 ⟨rfl, hb3⟩; clear tok3 _t; have hz3 := hb3.size; (try simp only [World.size_alloc, World.size_setCell, World.size_drew, World.size_drewN'] at hz3); (try (have kq := cellAt hb3 (w.heap.size) (by go_size); have k3_w_0_0 := kq 0; have k3_w_0_1 := kq 1; clear kq; have f3_w_0 := frozAt hb3 (w.heap.size) (by go_size); simp [go_sem, *] at k3_w_0_0 k3_w_0_1 f3_w_0)); (try have l3_w_0 : w.heap.size < w3.heap.size := by omega); (try (have kq := cellAt hb3 (w.heap.size + 1) (by go_size); have k3_w_1_0 := kq 0; have k3_w_1_1 := kq 1; clear kq; have f3_w_1 := frozAt hb3 (w.heap.size + 1) (by go_size); simp [go_sem, *] at k3_w_1_0 k3_w_1_1 f3_w_1)); (try have l3_w_1 : w.heap.size + 1 < w3.heap.size := by omega); (try (have kq := cellAt hb3 (w.heap.size + 1 + 1) (by go_size); have k3_w_2_0 := kq 0; have k3_w_2_1 := kq 1; clear kq; have f3_w_2 := frozAt hb3 (w.heap.size + 1 + 1) (by go_size); simp [go_sem, *] at k3_w_2_0 k3_w_2_1 f3_w_2)); (try have l3_w_2 : w.heap.size + 1 + 1 < w3.heap.size := by omega); (try clear k1_w_0_0 k1_w_0_1 f1_w_0); (try clear l1_w_0); (try clear k1_w_1_0 k1_w_1_1 f1_w_1); (try clear l1_w_1); (try clear k1_w_2_0 k1_w_2_1 f1_w_2); (try clear l1_w_2); (try clear k2_w_0_0 k2_w_0_1 f2_w_0); (try clear l2_w_0); (try clear k2_w_1_0 k2_w_1_1 f2_w_1); (try clear l2_w_1); (try clear k2_w_2_0 k2_w_2_1 f2_w_2); (try clear l2_w_2)))
  refine bodyPost_ret (v := _) (by simp [results, Try.results80, go_sem, *]) rfl ⟨rfl, ?_⟩
  repeat' first | (with_reducible first | apply zRf | assumption | apply zDn | apply zDr | apply zAl | apply zSt | refine zVi (by assumption) ?_ ?_) | go_size
theorem SumOf_any {n1 d1 n2 d2 : Int} (w : World) (h1 : frB n1 d1 = true) (h2 : frB n2 d2 = true) : Calls Try.prog 81 #[.agg #[.int .i64 n1, .int .i64 d1], .agg #[.int .i64 n2, .int .i64 d2]] w fun e w' =>
    e = .returned (.tuple #[.agg #[.int .i64 (suF n1 d1 n2 d2).1, .int .i64 (suF n1 d1 n2 d2).2.1], .bool (suF n1 d1 n2 d2).2.2]) ∧ Below w.heap.size w w' := by
  have m := frB_mul h1 h2
  have FR := fun W : World => Lib.hid (isFraction_any n1 d1 W)
  have FR2 := fun W : World => Lib.hid (isFraction_any n2 d2 W)
  rw [h1] at FR
  rw [h2] at FR2
  unfold suF
  clear h1 h2
  have tok1 : True := trivial
  have tok2 : True := trivial
  have tok3 : True := trivial
  go_enter Try.func81, Try.ntmps81
  go_wp2_with (first | (have _t := tok1; go_at_call 39; refine ((FR _).out).mono ?_; rintro e w1 ⟨rfl, hb1⟩; clear tok1 _t; have hz1 := hb1.size; (try simp only [World.size_alloc, World.size_setCell, World.size_drew, World.size_drewN'] at hz1); (try (have kq := cellAt hb1 (w.heap.size) (by go_size); have k1_w_0_0 := kq 0; have k1_w_0_1 := kq 1; clear kq; have f1_w_0 := frozAt hb1 (w.heap.size) (by go_size); simp [go_sem, *] at k1_w_0_0 k1_w_0_1 f1_w_0)); (try have l1_w_0 : w.heap.size < w1.heap.size := by omega); (try (have kq := cellAt hb1 (w.heap.size + 1) (by go_size); have k1_w_1_0 := kq 0; have k1_w_1_1 := kq 1; clear kq; have f1_w_1 := frozAt hb1 (w.heap.size + 1) (by go_size); simp [go_sem, *] at k1_w_1_0 k1_w_1_1 f1_w_1)); (try have l1_w_1 : w.heap.size + 1 < w1.heap.size := by omega); (try (have kq := cellAt hb1 (w.heap.size + 1 + 1) (by go_size); have k1_w_2_0 := kq 0; have k1_w_2_1 := kq 1; clear kq; have f1_w_2 := frozAt hb1 (w.heap.size + 1 + 1) (by go_size); simp [go_sem, *] at k1_w_2_0 k1_w_2_1 f1_w_2)); (try have l1_w_2 : w.heap.size + 1 + 1 < w1.heap.size := by omega)) | (have _t := tok2; go_at_call 39; refine ((FR2 _).out).mono ?_; rintro e w2 ⟨rfl, hb2⟩; clear tok2 _t; have hz2 := hb2.size; (try simp only [World.size_alloc, World.size_setCell, World.size_drew, World.size_drewN'] at hz2); (try (have kq := cellAt hb2 (w.heap.size) (by go_size); have k2_w_0_0 := kq 0; have k2_w_0_1 := kq 1; clear kq; have f2_w_0 := frozAt hb2 (w.heap.size) (by go_size); simp [go_sem, *] at k2_w_0_0 k2_w_0_1 f2_w_0)); (try have l2_w_0 : w.heap.size < w2.heap.size := by omega); (try (have kq := cellAt hb2 (w.heap.size + 1) (by go_size); have k2_w_1_0 := kq 0; have k2_w_1_1 := kq 1; clear kq; have f2_w_1 := frozAt hb2 (w.heap.size + 1) (by go_size); simp [go_sem, *] at k2_w_1_0 k2_w_1_1 f2_w_1)); (try have l2_w_1 : w.heap.size + 1 < w2.heap.size := by omega); (try (have kq := cellAt hb2 (w.heap.size + 1 + 1) (by go_size); have k2_w_2_0 := kq 0; have k2_w_2_1 := kq 1; clear kq; have f2_w_2 := frozAt hb2 (w.heap.size + 1 + 1) (by go_size); simp [go_sem, *] at k2_w_2_0 k2_w_2_1 f2_w_2)); (try have l2_w_2 : w.heap.size + 1 + 1 < w2.heap.size := by omega); (try clear k1_w_0_0 k1_w_0_1 f1_w_0); (try clear l1_w_0); (try clear k1_w_1_0 k1_w_1_1 f1_w_1); (try clear l1_w_1); (try clear k1_w_2_0 k1_w_2_1 f1_w_2); (try clear l1_w_2)) | (have _t := tok3; go_at_call 50; refine (makeFraction_any _ _ _ (by omega) (by omega) (by omega) (by omega) (by omega)).mono ?_; rintro e w3 ⟨rfl, hb3⟩; clear tok3 _t; have hz3 := hb3.size; (try simp only [World.size_alloc, World.size_setCell, World.size_drew, World.size_drewN'] at hz3); (try (have kq := cellAt hb3 (w.heap.size) (by go_size); have k3_w_0_0 := kq 0; have k3_w_0_1 := kq 1; clear kq; have f3_w_0 := frozAt hb3 (w.heap.size) (by go_size); simp [go_sem, *] at k3_w_0_0 k3_w_0_1 f3_w_0)); (try have l3_w_0 : w.heap.size < w3.heap.size := by omega); (try (have kq := cellAt hb3 (w.heap.size + 1) (by go_size); have k3_w_1_0 := kq 0; have k3_w_1_1 := kq 1; clear kq; have f3_w_1 := frozAt hb3 (w.heap.size + 1) (by go_size); simp [go_sem, *] at k3_w_1_0 k3_w_1_1 f3_w_1)); (try have l3_w_1 : w.heap.size + 1 < w3.heap.size := by omega); (try (have kq := cellAt hb3 (w.heap.size + 1 + 1) (by go_size); have k3_w_2_0 := kq 0; have k3_w_2_1 := kq 1; clear kq; have f3_w_2 := frozAt hb3 (w.heap.size + 1 + 1) (by go_size); simp [go_sem, *] at k3_w_2_0 k3_w_2_1 f3_w_2)); (try have l3_w_2 : w.heap.size + 1 + 1 < w3.heap.size := by omega); (try clear k1_w_0_0 k1_w_0_1 f1_w_0); (try clear l1_w_0); (try clear k1_w_1_0 k1_w_1_1 f1_w_1); (try clear l1_w_1); (try clear k1_w_2_0 k1_w_2_1 f1_w_2); (try clear l1_w_2); (try clear k2_w_0_0 k2_w_0_1 f2_w_0); (try clear l2_w_0); (try clear k2_w_1_0 k2_w_1_1 f2_w_1); (try clear l2_w_1); (try clear k2_w_2_0 k2_w_2_1 f2_w_2); (try clear l2_w_2)))
  refine bodyPost_ret (v := _) (by simp [results, Try.results81, go_sem, *]) rfl ⟨rfl, ?_⟩
  repeat' first | (with_reducible first | apply zRf | assumption | apply zDn | apply zDr | apply zAl | apply zSt | refine zVi (by assumption) ?_ ?_) | go_size
end Go.Proofs.Ytnemnkbcbokafaa
