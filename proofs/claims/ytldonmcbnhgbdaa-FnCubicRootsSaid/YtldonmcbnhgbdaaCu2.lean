/- Signs of cubics at fractions: contracts of both sides, and the walk of the law. -/
import Derived.Test.YtldonmcbnhgbdaaCu
import Derived.Test.YtldonmcbnhgbdaaDrawn
import Derived.Test.YtldonmcbnhgbdaaToL
namespace Go.Proofs.Ytldonmcbnhgbdaa
open Go.RowKit
set_option linter.unusedVariables false
set_option maxHeartbeats 4000000
set_option maxRecDepth 20000
set_option linter.unusedSimpArgs false
def cfB (a b c d n e : Int) : Bool := cuB a b c d && (frB n e && (inB n (-10000) 10000 && decide (e ≤ 1000)))
def cfV (a b c d n e : Int) : Int := if cfB a b c d n e = true then sgnV (cuV a b c d n e) else 0
theorem cfB_cases (a b c d n e : Int) : (cuB a b c d = false ∧ cfB a b c d n e = false ∧ cfV a b c d n e = 0) ∨ (cuB a b c d = true ∧ ((frB n e = false ∧ cfB a b c d n e = false ∧ cfV a b c d n e = 0) ∨ (frB n e = true ∧
    ((inB n (-10000) 10000 = false ∧ cfB a b c d n e = false ∧ cfV a b c d n e = 0) ∨ (inB n (-10000) 10000 = true ∧ ((1000 < e ∧ cfB a b c d n e = false ∧ cfV a b c d n e = 0) ∨ (e ≤ 1000 ∧ cfB a b c d n e = true ∧ cfV a b c d n e = sgnV (cuV a b c d n e)))))))) := by
  cases h1 : cuB a b c d
  · left; simp [cfB, cfV, h1]
  · right; refine ⟨rfl, ?_⟩
    cases h2 : frB n e
    · left; simp [cfB, cfV, h1, h2]
    · right; refine ⟨rfl, ?_⟩
      cases h3 : inB n (-10000) 10000
      · left; simp [cfB, cfV, h1, h2, h3]
      · right; refine ⟨rfl, ?_⟩
        by_cases h4 : e ≤ 1000
        · right; simp [cfB, cfV, h1, h2, h3, h4]
        · left; refine ⟨by omega, ?_⟩; simp [cfB, cfV, h1, h2, h3, h4]
theorem cuAll (a b c d : Int) (h : a ≠ 0) : ([a, b, c, d].all fun z => inB z (-1000) 1000) = cuB a b c d := by simp [cuB, h]
theorem l1All_four (blk c : Nat) (a1 a2 a3 a4 lo hi : Int) (w : World) (h1 : w.cell? ⟨blk, 0, none⟩ = some (.int .i64 a1)) (h2 : w.cell? ⟨blk, 1, none⟩ = some (.int .i64 a2)) (h3 : w.cell? ⟨blk, 2, none⟩ = some (.int .i64 a3)) (h4 : w.cell? ⟨blk, 3, none⟩ = some (.int .i64 a4)) :
    Calls Try.prog 50 #[.slice (some ⟨blk, 0, none⟩) 4 c, .int .i64 lo, .int .i64 hi] w fun e w' => e = .returned (.bool ([a1, a2, a3, a4].all fun z => inB z lo hi)) ∧ w = w' :=
  l1All_any blk 0 c [a1, a2, a3, a4] lo hi w (by simp) (by
    intro j hj
    rw [Nat.zero_add]
    match j, hj with
    | 0, _ => exact h1
    | 1, _ => exact h2
    | 2, _ => exact h3
    | 3, _ => exact h4)
theorem cuGood_any (a b c d : Int) (w : World) : Calls Try.prog 27 #[.agg #[.int .i64 a, .int .i64 b, .int .i64 c, .int .i64 d]] w fun e w' => e = .returned (.bool (cuB a b c d)) ∧ Below w.heap.size w w' := by
  by_cases h : a = 0
  · rw [show cuB a b c d = false by simp [cuB, h]]
    subst h
    go_enter Try.func27, Try.ntmps27
    go_wp2_with fail
    go_ret
    refine ⟨rfl, ?_⟩
    repeat' first | (with_reducible first | apply zRf | assumption | apply zDn | apply zDr | apply zAl | apply zSt | refine zVi (by assumption) ?_ ?_) | go_size
  · have HA := Lib.hid (cuAll a b c d h)
    have h' : (a != 0) = true := by simp [h]
    go_enter Try.func27, Try.ntmps27
    go_wp2_with (first | (go_at_call 50; refine (l1All_four _ _ a b c d _ _ _ (by simp [go_sem]) (by simp [go_sem]) (by simp [go_sem]) (by simp [go_sem])).mono ?_; rintro e w' ⟨rfl, rfl⟩))
    go_ret
    refine ⟨ret_bool (by have := HA.out; simpa using this), ?_⟩
    repeat' first | (with_reducible first | apply zRf | assumption | apply zDn | apply zDr | apply zAl | apply zSt | refine zVi (by assumption) ?_ ?_) | go_size
theorem cmpInt_any (x y : Int) (w : World) : Calls Try.prog 45 #[.int .i64 x, .int .i64 y] w fun e w' => e = .returned (.int .i64 (Lib.compareInt x y)) ∧ w = w' := by
  have e1 : (x != x) = false := by simp
  have e2 : (y != y) = false := by simp
  rcases Int.lt_trichotomy x y with h | h | h
  · rw [show Lib.compareInt x y = -1 by simp [Lib.compareInt, h]]
    go_enter Try.func45, Try.ntmps45
    go_wp2
    go_ret
    exact ⟨rfl, rfl⟩
  · subst h
    rw [show Lib.compareInt x x = 0 by simp [Lib.compareInt]]
    go_enter Try.func45, Try.ntmps45
    go_wp2
    go_ret
    exact ⟨rfl, rfl⟩
  · rw [show Lib.compareInt x y = 1 by simp [Lib.compareInt]; omega]
    go_enter Try.func45, Try.ntmps45
    go_wp2
    go_ret
    exact ⟨rfl, rfl⟩
theorem l1Sign_any (v : Int) (w : World) : Calls Try.prog 33 #[.int .i64 v] w fun e w' => e = .returned (.int .i64 (sgnV v)) ∧ w = w' := by
  rcases Int.lt_trichotomy v 0 with h | h | h
  · rw [show sgnV v = -1 by simp [sgnV]; omega]
    go_enter Try.func33, Try.ntmps33
    go_wp2
    go_ret
    exact ⟨rfl, rfl⟩
  · subst h
    rw [show sgnV 0 = 0 by simp [sgnV]]
    go_enter Try.func33, Try.ntmps33
    go_wp2
    go_ret
    exact ⟨rfl, rfl⟩
  · rw [show sgnV v = 1 by simp [sgnV, h]]
    go_enter Try.func33, Try.ntmps33
    go_wp2
    go_ret
    exact ⟨rfl, rfl⟩
theorem CubicAtFraction_any (a b c d n e : Int) (w : World) : Calls Try.prog 22 #[.agg #[.int .i64 a, .int .i64 b, .int .i64 c, .int .i64 d], .agg #[.int .i64 n, .int .i64 e]] w fun r w' =>
    r = .returned (.tuple #[.int .i64 (cfV a b c d n e), .bool (cfB a b c d n e)]) ∧ Below w.heap.size w w' := by
  have T1 := fun W : World => Lib.hid (isCubic_any a b c d W)
  have T2 := fun W : World => Lib.hid (isFraction_any n e W)
  have T3 := fun W : World => Lib.hid (inside_any n (-10000) 10000 W)
  have hnot : ∀ (x : Bool) (w : World), (Op.unary .not (.bool x)).run Try.prog w = .ok (.bool (!x)) w := fun _ _ => rfl
  rcases cfB_cases a b c d n e with ⟨h1, e1, e2⟩ | ⟨h1, ⟨h2, e1, e2⟩ | ⟨h2, ⟨h3, e1, e2⟩ | ⟨h3, ⟨h4, e1, e2⟩ | ⟨h4, e1, e2⟩⟩⟩⟩
  · rw [e1, e2]
    have T4 := T1
    rw [h1] at T1
    clear h1 e1 e2
    have tok1 : True := trivial
    have tok2 : True := trivial
    have tok3 : True := trivial
    go_enter Try.func22, Try.ntmps22
    go_wp2_with (first | (have _t := tok1; go_at_call 25; (with_reducible refine ((T1 _).out).mono ?_); rintro e w1 ⟨rfl, hb1⟩; clear tok1 _t; have hz1 := hb1.size; (try simp only [World.size_alloc, World.size_setCell, World.size_drew, World.size_drewN'] at hz1); (try (have kq := cellAt hb1 (w.heap.size) (by go_size); have k1_w_0_0 := kq 0; have k1_w_0_1 := kq 1; have k1_w_0_2 := kq 2; have k1_w_0_3 := kq 3; clear kq; have f1_w_0 := frozAt hb1 (w.heap.size) (by go_size); simp [go_sem, *] at k1_w_0_0 k1_w_0_1 k1_w_0_2 k1_w_0_3 f1_w_0)); (try have l1_w_0 : w.heap.size < w1.heap.size := by omega); (try (have kq := cellAt hb1 (w.heap.size + 1) (by go_size); have k1_w_1_0 := kq 0; have k1_w_1_1 := kq 1; clear kq; have f1_w_1 := frozAt hb1 (w.heap.size + 1) (by go_size); simp [go_sem, *] at k1_w_1_0 k1_w_1_1 f1_w_1)); (try have l1_w_1 : w.heap.size + 1 < w1.heap.size := by omega)) | (have _t := tok2; go_at_call 40; (with_reducible refine ((T2 _).out).mono ?_); rintro e w2 ⟨rfl, hb2⟩; clear tok2 _t; have hz2 := hb2.size; (try simp only [World.size_alloc, World.size_setCell, World.size_drew, World.size_drewN'] at hz2); (try (have kq := cellAt hb2 (w.heap.size) (by go_size); have k2_w_0_0 := kq 0; have k2_w_0_1 := kq 1; have k2_w_0_2 := kq 2; have k2_w_0_3 := kq 3; clear kq; have f2_w_0 := frozAt hb2 (w.heap.size) (by go_size); simp [go_sem, *] at k2_w_0_0 k2_w_0_1 k2_w_0_2 k2_w_0_3 f2_w_0)); (try have l2_w_0 : w.heap.size < w2.heap.size := by omega); (try (have kq := cellAt hb2 (w.heap.size + 1) (by go_size); have k2_w_1_0 := kq 0; have k2_w_1_1 := kq 1; clear kq; have f2_w_1 := frozAt hb2 (w.heap.size + 1) (by go_size); simp [go_sem, *] at k2_w_1_0 k2_w_1_1 f2_w_1)); (try have l2_w_1 : w.heap.size + 1 < w2.heap.size := by omega); (try clear k1_w_0_0 k1_w_0_1 k1_w_0_2 k1_w_0_3 f1_w_0); (try clear l1_w_0); (try clear k1_w_1_0 k1_w_1_1 f1_w_1); (try clear l1_w_1)) | (go_at_call 44; (with_reducible refine ((T3 _).out).mono ?_); rintro e w' ⟨rfl, rfl⟩) | (have _t := tok3; go_at_call 46; (with_reducible refine ((T4 _).out).mono ?_); rintro e w3 ⟨rfl, hb3⟩; clear tok3 _t; have hz3 := hb3.size; (try simp only [World.size_alloc, World.size_setCell, World.size_drew, World.size_drewN'] at hz3); (try (have kq := cellAt hb3 (w.heap.size) (by go_size); have k3_w_0_0 := kq 0; have k3_w_0_1 := kq 1; have k3_w_0_2 := kq 2; have k3_w_0_3 := kq 3; clear kq; have f3_w_0 := frozAt hb3 (w.heap.size) (by go_size); simp [go_sem, *] at k3_w_0_0 k3_w_0_1 k3_w_0_2 k3_w_0_3 f3_w_0)); (try have l3_w_0 : w.heap.size < w3.heap.size := by omega); (try (have kq := cellAt hb3 (w.heap.size + 1) (by go_size); have k3_w_1_0 := kq 0; have k3_w_1_1 := kq 1; clear kq; have f3_w_1 := frozAt hb3 (w.heap.size + 1) (by go_size); simp [go_sem, *] at k3_w_1_0 k3_w_1_1 f3_w_1)); (try have l3_w_1 : w.heap.size + 1 < w3.heap.size := by omega); (try clear k1_w_0_0 k1_w_0_1 k1_w_0_2 k1_w_0_3 f1_w_0); (try clear l1_w_0); (try clear k1_w_1_0 k1_w_1_1 f1_w_1); (try clear l1_w_1); (try clear k2_w_0_0 k2_w_0_1 k2_w_0_2 k2_w_0_3 f2_w_0); (try clear l2_w_0); (try clear k2_w_1_0 k2_w_1_1 f2_w_1); (try clear l2_w_1)) | (go_at_call 45; refine (cmpInt_any _ _ _).mono ?_; rintro e w' ⟨rfl, rfl⟩))
    go_ret2
    refine ⟨rfl, ?_⟩
    repeat' first | (with_reducible first | apply zRf | assumption | apply zDn | apply zDr | apply zAl | apply zSt | refine zVi (by assumption) ?_ ?_) | go_size
  · rw [e1, e2]
    have T4 := T1
    rw [h1] at T1
    rw [h2] at T2
    clear h1 h2 e1 e2
    have tok1 : True := trivial
    have tok2 : True := trivial
    have tok3 : True := trivial
    go_enter Try.func22, Try.ntmps22
    go_wp2_with (first | (have _t := tok1; go_at_call 25; (with_reducible refine ((T1 _).out).mono ?_); rintro e w1 ⟨rfl, hb1⟩; clear tok1 _t; have hz1 := hb1.size; (try simp only [World.size_alloc, World.size_setCell, World.size_drew, World.size_drewN'] at hz1); (try (have kq := cellAt hb1 (w.heap.size) (by go_size); have k1_w_0_0 := kq 0; have k1_w_0_1 := kq 1; have k1_w_0_2 := kq 2; have k1_w_0_3 := kq 3; clear kq; have f1_w_0 := frozAt hb1 (w.heap.size) (by go_size); simp [go_sem, *] at k1_w_0_0 k1_w_0_1 k1_w_0_2 k1_w_0_3 f1_w_0)); (try have l1_w_0 : w.heap.size < w1.heap.size := by omega); (try (have kq := cellAt hb1 (w.heap.size + 1) (by go_size); have k1_w_1_0 := kq 0; have k1_w_1_1 := kq 1; clear kq; have f1_w_1 := frozAt hb1 (w.heap.size + 1) (by go_size); simp [go_sem, *] at k1_w_1_0 k1_w_1_1 f1_w_1)); (try have l1_w_1 : w.heap.size + 1 < w1.heap.size := by omega)) | (have _t := tok2; go_at_call 40; (with_reducible refine ((T2 _).out).mono ?_); rintro e w2 ⟨rfl, hb2⟩; clear tok2 _t; have hz2 := hb2.size; (try simp only [World.size_alloc, World.size_setCell, World.size_drew, World.size_drewN'] at hz2); (try (have kq := cellAt hb2 (w.heap.size) (by go_size); have k2_w_0_0 := kq 0; have k2_w_0_1 := kq 1; have k2_w_0_2 := kq 2; have k2_w_0_3 := kq 3; clear kq; have f2_w_0 := frozAt hb2 (w.heap.size) (by go_size); simp [go_sem, *] at k2_w_0_0 k2_w_0_1 k2_w_0_2 k2_w_0_3 f2_w_0)); (try have l2_w_0 : w.heap.size < w2.heap.size := by omega); (try (have kq := cellAt hb2 (w.heap.size + 1) (by go_size); have k2_w_1_0 := kq 0; have k2_w_1_1 := kq 1; clear kq; have f2_w_1 := frozAt hb2 (w.heap.size + 1) (by go_size); simp [go_sem, *] at k2_w_1_0 k2_w_1_1 f2_w_1)); (try have l2_w_1 : w.heap.size + 1 < w2.heap.size := by omega); (try clear k1_w_0_0 k1_w_0_1 k1_w_0_2 k1_w_0_3 f1_w_0); (try clear l1_w_0); (try clear k1_w_1_0 k1_w_1_1 f1_w_1); (try clear l1_w_1)) | (go_at_call 44; (with_reducible refine ((T3 _).out).mono ?_); rintro e w' ⟨rfl, rfl⟩) | (have _t := tok3; go_at_call 46; (with_reducible refine ((T4 _).out).mono ?_); rintro e w3 ⟨rfl, hb3⟩; clear tok3 _t; have hz3 := hb3.size; (try simp only [World.size_alloc, World.size_setCell, World.size_drew, World.size_drewN'] at hz3); (try (have kq := cellAt hb3 (w.heap.size) (by go_size); have k3_w_0_0 := kq 0; have k3_w_0_1 := kq 1; have k3_w_0_2 := kq 2; have k3_w_0_3 := kq 3; clear kq; have f3_w_0 := frozAt hb3 (w.heap.size) (by go_size); simp [go_sem, *] at k3_w_0_0 k3_w_0_1 k3_w_0_2 k3_w_0_3 f3_w_0)); (try have l3_w_0 : w.heap.size < w3.heap.size := by omega); (try (have kq := cellAt hb3 (w.heap.size + 1) (by go_size); have k3_w_1_0 := kq 0; have k3_w_1_1 := kq 1; clear kq; have f3_w_1 := frozAt hb3 (w.heap.size + 1) (by go_size); simp [go_sem, *] at k3_w_1_0 k3_w_1_1 f3_w_1)); (try have l3_w_1 : w.heap.size + 1 < w3.heap.size := by omega); (try clear k1_w_0_0 k1_w_0_1 k1_w_0_2 k1_w_0_3 f1_w_0); (try clear l1_w_0); (try clear k1_w_1_0 k1_w_1_1 f1_w_1); (try clear l1_w_1); (try clear k2_w_0_0 k2_w_0_1 k2_w_0_2 k2_w_0_3 f2_w_0); (try clear l2_w_0); (try clear k2_w_1_0 k2_w_1_1 f2_w_1); (try clear l2_w_1)) | (go_at_call 45; refine (cmpInt_any _ _ _).mono ?_; rintro e w' ⟨rfl, rfl⟩))
    go_ret2
    refine ⟨rfl, ?_⟩
    repeat' first | (with_reducible first | apply zRf | assumption | apply zDn | apply zDr | apply zAl | apply zSt | refine zVi (by assumption) ?_ ?_) | go_size
  · rw [e1, e2]
    have T4 := T1
    rw [h1] at T1
    rw [h2] at T2
    rw [h3] at T3
    clear h1 h2 h3 e1 e2
    have tok1 : True := trivial
    have tok2 : True := trivial
    have tok3 : True := trivial
    go_enter Try.func22, Try.ntmps22
    go_wp2_with (first | (have _t := tok1; go_at_call 25; (with_reducible refine ((T1 _).out).mono ?_); rintro e w1 ⟨rfl, hb1⟩; clear tok1 _t; have hz1 := hb1.size; (try simp only [World.size_alloc, World.size_setCell, World.size_drew, World.size_drewN'] at hz1); (try (have kq := cellAt hb1 (w.heap.size) (by go_size); have k1_w_0_0 := kq 0; have k1_w_0_1 := kq 1; have k1_w_0_2 := kq 2; have k1_w_0_3 := kq 3; clear kq; have f1_w_0 := frozAt hb1 (w.heap.size) (by go_size); simp [go_sem, *] at k1_w_0_0 k1_w_0_1 k1_w_0_2 k1_w_0_3 f1_w_0)); (try have l1_w_0 : w.heap.size < w1.heap.size := by omega); (try (have kq := cellAt hb1 (w.heap.size + 1) (by go_size); have k1_w_1_0 := kq 0; have k1_w_1_1 := kq 1; clear kq; have f1_w_1 := frozAt hb1 (w.heap.size + 1) (by go_size); simp [go_sem, *] at k1_w_1_0 k1_w_1_1 f1_w_1)); (try have l1_w_1 : w.heap.size + 1 < w1.heap.size := by omega)) | (have _t := tok2; go_at_call 40; (with_reducible refine ((T2 _).out).mono ?_); rintro e w2 ⟨rfl, hb2⟩; clear tok2 _t; have hz2 := hb2.size; (try simp only [World.size_alloc, World.size_setCell, World.size_drew, World.size_drewN'] at hz2); (try (have kq := cellAt hb2 (w.heap.size) (by go_size); have k2_w_0_0 := kq 0; have k2_w_0_1 := kq 1; have k2_w_0_2 := kq 2; have k2_w_0_3 := kq 3; clear kq; have f2_w_0 := frozAt hb2 (w.heap.size) (by go_size); simp [go_sem, *] at k2_w_0_0 k2_w_0_1 k2_w_0_2 k2_w_0_3 f2_w_0)); (try have l2_w_0 : w.heap.size < w2.heap.size := by omega); (try (have kq := cellAt hb2 (w.heap.size + 1) (by go_size); have k2_w_1_0 := kq 0; have k2_w_1_1 := kq 1; clear kq; have f2_w_1 := frozAt hb2 (w.heap.size + 1) (by go_size); simp [go_sem, *] at k2_w_1_0 k2_w_1_1 f2_w_1)); (try have l2_w_1 : w.heap.size + 1 < w2.heap.size := by omega); (try clear k1_w_0_0 k1_w_0_1 k1_w_0_2 k1_w_0_3 f1_w_0); (try clear l1_w_0); (try clear k1_w_1_0 k1_w_1_1 f1_w_1); (try clear l1_w_1)) | (go_at_call 44; (with_reducible refine ((T3 _).out).mono ?_); rintro e w' ⟨rfl, rfl⟩) | (have _t := tok3; go_at_call 46; (with_reducible refine ((T4 _).out).mono ?_); rintro e w3 ⟨rfl, hb3⟩; clear tok3 _t; have hz3 := hb3.size; (try simp only [World.size_alloc, World.size_setCell, World.size_drew, World.size_drewN'] at hz3); (try (have kq := cellAt hb3 (w.heap.size) (by go_size); have k3_w_0_0 := kq 0; have k3_w_0_1 := kq 1; have k3_w_0_2 := kq 2; have k3_w_0_3 := kq 3; clear kq; have f3_w_0 := frozAt hb3 (w.heap.size) (by go_size); simp [go_sem, *] at k3_w_0_0 k3_w_0_1 k3_w_0_2 k3_w_0_3 f3_w_0)); (try have l3_w_0 : w.heap.size < w3.heap.size := by omega); (try (have kq := cellAt hb3 (w.heap.size + 1) (by go_size); have k3_w_1_0 := kq 0; have k3_w_1_1 := kq 1; clear kq; have f3_w_1 := frozAt hb3 (w.heap.size + 1) (by go_size); simp [go_sem, *] at k3_w_1_0 k3_w_1_1 f3_w_1)); (try have l3_w_1 : w.heap.size + 1 < w3.heap.size := by omega); (try clear k1_w_0_0 k1_w_0_1 k1_w_0_2 k1_w_0_3 f1_w_0); (try clear l1_w_0); (try clear k1_w_1_0 k1_w_1_1 f1_w_1); (try clear l1_w_1); (try clear k2_w_0_0 k2_w_0_1 k2_w_0_2 k2_w_0_3 f2_w_0); (try clear l2_w_0); (try clear k2_w_1_0 k2_w_1_1 f2_w_1); (try clear l2_w_1)) | (go_at_call 45; refine (cmpInt_any _ _ _).mono ?_; rintro e w' ⟨rfl, rfl⟩))
    go_ret2
    refine ⟨rfl, ?_⟩
    repeat' first | (with_reducible first | apply zRf | assumption | apply zDn | apply zDr | apply zAl | apply zSt | refine zVi (by assumption) ?_ ?_) | go_size
  · rw [e1, e2]
    have T4 := T1
    rw [h1] at T1
    rw [h2] at T2
    rw [h3] at T3
    clear h1 h2 h3 e1 e2
    have tok1 : True := trivial
    have tok2 : True := trivial
    have tok3 : True := trivial
    go_enter Try.func22, Try.ntmps22
    go_wp2_with (first | (have _t := tok1; go_at_call 25; (with_reducible refine ((T1 _).out).mono ?_); rintro e w1 ⟨rfl, hb1⟩; clear tok1 _t; have hz1 := hb1.size; (try simp only [World.size_alloc, World.size_setCell, World.size_drew, World.size_drewN'] at hz1); (try (have kq := cellAt hb1 (w.heap.size) (by go_size); have k1_w_0_0 := kq 0; have k1_w_0_1 := kq 1; have k1_w_0_2 := kq 2; have k1_w_0_3 := kq 3; clear kq; have f1_w_0 := frozAt hb1 (w.heap.size) (by go_size); simp [go_sem, *] at k1_w_0_0 k1_w_0_1 k1_w_0_2 k1_w_0_3 f1_w_0)); (try have l1_w_0 : w.heap.size < w1.heap.size := by omega); (try (have kq := cellAt hb1 (w.heap.size + 1) (by go_size); have k1_w_1_0 := kq 0; have k1_w_1_1 := kq 1; clear kq; have f1_w_1 := frozAt hb1 (w.heap.size + 1) (by go_size); simp [go_sem, *] at k1_w_1_0 k1_w_1_1 f1_w_1)); (try have l1_w_1 : w.heap.size + 1 < w1.heap.size := by omega)) | (have _t := tok2; go_at_call 40; (with_reducible refine ((T2 _).out).mono ?_); rintro e w2 ⟨rfl, hb2⟩; clear tok2 _t; have hz2 := hb2.size; (try simp only [World.size_alloc, World.size_setCell, World.size_drew, World.size_drewN'] at hz2); (try (have kq := cellAt hb2 (w.heap.size) (by go_size); have k2_w_0_0 := kq 0; have k2_w_0_1 := kq 1; have k2_w_0_2 := kq 2; have k2_w_0_3 := kq 3; clear kq; have f2_w_0 := frozAt hb2 (w.heap.size) (by go_size); simp [go_sem, *] at k2_w_0_0 k2_w_0_1 k2_w_0_2 k2_w_0_3 f2_w_0)); (try have l2_w_0 : w.heap.size < w2.heap.size := by omega); (try (have kq := cellAt hb2 (w.heap.size + 1) (by go_size); have k2_w_1_0 := kq 0; have k2_w_1_1 := kq 1; clear kq; have f2_w_1 := frozAt hb2 (w.heap.size + 1) (by go_size); simp [go_sem, *] at k2_w_1_0 k2_w_1_1 f2_w_1)); (try have l2_w_1 : w.heap.size + 1 < w2.heap.size := by omega); (try clear k1_w_0_0 k1_w_0_1 k1_w_0_2 k1_w_0_3 f1_w_0); (try clear l1_w_0); (try clear k1_w_1_0 k1_w_1_1 f1_w_1); (try clear l1_w_1)) | (go_at_call 44; (with_reducible refine ((T3 _).out).mono ?_); rintro e w' ⟨rfl, rfl⟩) | (have _t := tok3; go_at_call 46; (with_reducible refine ((T4 _).out).mono ?_); rintro e w3 ⟨rfl, hb3⟩; clear tok3 _t; have hz3 := hb3.size; (try simp only [World.size_alloc, World.size_setCell, World.size_drew, World.size_drewN'] at hz3); (try (have kq := cellAt hb3 (w.heap.size) (by go_size); have k3_w_0_0 := kq 0; have k3_w_0_1 := kq 1; have k3_w_0_2 := kq 2; have k3_w_0_3 := kq 3; clear kq; have f3_w_0 := frozAt hb3 (w.heap.size) (by go_size); simp [go_sem, *] at k3_w_0_0 k3_w_0_1 k3_w_0_2 k3_w_0_3 f3_w_0)); (try have l3_w_0 : w.heap.size < w3.heap.size := by omega); (try (have kq := cellAt hb3 (w.heap.size + 1) (by go_size); have k3_w_1_0 := kq 0; have k3_w_1_1 := kq 1; clear kq; have f3_w_1 := frozAt hb3 (w.heap.size + 1) (by go_size); simp [go_sem, *] at k3_w_1_0 k3_w_1_1 f3_w_1)); (try have l3_w_1 : w.heap.size + 1 < w3.heap.size := by omega); (try clear k1_w_0_0 k1_w_0_1 k1_w_0_2 k1_w_0_3 f1_w_0); (try clear l1_w_0); (try clear k1_w_1_0 k1_w_1_1 f1_w_1); (try clear l1_w_1); (try clear k2_w_0_0 k2_w_0_1 k2_w_0_2 k2_w_0_3 f2_w_0); (try clear l2_w_0); (try clear k2_w_1_0 k2_w_1_1 f2_w_1); (try clear l2_w_1)) | (go_at_call 45; refine (cmpInt_any _ _ _).mono ?_; rintro e w' ⟨rfl, rfl⟩))
    go_ret2
    refine ⟨rfl, ?_⟩
    repeat' first | (with_reducible first | apply zRf | assumption | apply zDn | apply zDr | apply zAl | apply zSt | refine zVi (by assumption) ?_ ?_) | go_size
  · have b1 := cuB_bd h1
    have b2 := frB_bd h2
    have b3 := inB_iff.1 h3
    have T4 := fun W : World => Lib.hid (over_any a b c d n e W b1.2.1 b1.2.2.1 b1.2.2.2.1 b1.2.2.2.2 (by omega) (by omega))
    rw [e1, e2, ← sgnV_cmp]
    rw [h1] at T1
    rw [h2] at T2
    rw [h3] at T3
    clear h1 h2 h3 e1 e2 b1 b3
    generalize cuV a b c d n e = v at *
    have tok1 : True := trivial
    have tok2 : True := trivial
    have tok3 : True := trivial
    go_enter Try.func22, Try.ntmps22
    go_wp2_with (first | (have _t := tok1; go_at_call 25; (with_reducible refine ((T1 _).out).mono ?_); rintro e w1 ⟨rfl, hb1⟩; clear tok1 _t; have hz1 := hb1.size; (try simp only [World.size_alloc, World.size_setCell, World.size_drew, World.size_drewN'] at hz1); (try (have kq := cellAt hb1 (w.heap.size) (by go_size); have k1_w_0_0 := kq 0; have k1_w_0_1 := kq 1; have k1_w_0_2 := kq 2; have k1_w_0_3 := kq 3; clear kq; have f1_w_0 := frozAt hb1 (w.heap.size) (by go_size); simp [go_sem, *] at k1_w_0_0 k1_w_0_1 k1_w_0_2 k1_w_0_3 f1_w_0)); (try have l1_w_0 : w.heap.size < w1.heap.size := by omega); (try (have kq := cellAt hb1 (w.heap.size + 1) (by go_size); have k1_w_1_0 := kq 0; have k1_w_1_1 := kq 1; clear kq; have f1_w_1 := frozAt hb1 (w.heap.size + 1) (by go_size); simp [go_sem, *] at k1_w_1_0 k1_w_1_1 f1_w_1)); (try have l1_w_1 : w.heap.size + 1 < w1.heap.size := by omega)) | (have _t := tok2; go_at_call 40; (with_reducible refine ((T2 _).out).mono ?_); rintro e w2 ⟨rfl, hb2⟩; clear tok2 _t; have hz2 := hb2.size; (try simp only [World.size_alloc, World.size_setCell, World.size_drew, World.size_drewN'] at hz2); (try (have kq := cellAt hb2 (w.heap.size) (by go_size); have k2_w_0_0 := kq 0; have k2_w_0_1 := kq 1; have k2_w_0_2 := kq 2; have k2_w_0_3 := kq 3; clear kq; have f2_w_0 := frozAt hb2 (w.heap.size) (by go_size); simp [go_sem, *] at k2_w_0_0 k2_w_0_1 k2_w_0_2 k2_w_0_3 f2_w_0)); (try have l2_w_0 : w.heap.size < w2.heap.size := by omega); (try (have kq := cellAt hb2 (w.heap.size + 1) (by go_size); have k2_w_1_0 := kq 0; have k2_w_1_1 := kq 1; clear kq; have f2_w_1 := frozAt hb2 (w.heap.size + 1) (by go_size); simp [go_sem, *] at k2_w_1_0 k2_w_1_1 f2_w_1)); (try have l2_w_1 : w.heap.size + 1 < w2.heap.size := by omega); (try clear k1_w_0_0 k1_w_0_1 k1_w_0_2 k1_w_0_3 f1_w_0); (try clear l1_w_0); (try clear k1_w_1_0 k1_w_1_1 f1_w_1); (try clear l1_w_1)) | (go_at_call 44; (with_reducible refine ((T3 _).out).mono ?_); rintro e w' ⟨rfl, rfl⟩) | (have _t := tok3; go_at_call 46; (with_reducible refine ((T4 _).out).mono ?_); rintro e w3 ⟨rfl, hb3⟩; clear tok3 _t; have hz3 := hb3.size; (try simp only [World.size_alloc, World.size_setCell, World.size_drew, World.size_drewN'] at hz3); (try (have kq := cellAt hb3 (w.heap.size) (by go_size); have k3_w_0_0 := kq 0; have k3_w_0_1 := kq 1; have k3_w_0_2 := kq 2; have k3_w_0_3 := kq 3; clear kq; have f3_w_0 := frozAt hb3 (w.heap.size) (by go_size); simp [go_sem, *] at k3_w_0_0 k3_w_0_1 k3_w_0_2 k3_w_0_3 f3_w_0)); (try have l3_w_0 : w.heap.size < w3.heap.size := by omega); (try (have kq := cellAt hb3 (w.heap.size + 1) (by go_size); have k3_w_1_0 := kq 0; have k3_w_1_1 := kq 1; clear kq; have f3_w_1 := frozAt hb3 (w.heap.size + 1) (by go_size); simp [go_sem, *] at k3_w_1_0 k3_w_1_1 f3_w_1)); (try have l3_w_1 : w.heap.size + 1 < w3.heap.size := by omega); (try clear k1_w_0_0 k1_w_0_1 k1_w_0_2 k1_w_0_3 f1_w_0); (try clear l1_w_0); (try clear k1_w_1_0 k1_w_1_1 f1_w_1); (try clear l1_w_1); (try clear k2_w_0_0 k2_w_0_1 k2_w_0_2 k2_w_0_3 f2_w_0); (try clear l2_w_0); (try clear k2_w_1_0 k2_w_1_1 f2_w_1); (try clear l2_w_1)) | (go_at_call 45; refine (cmpInt_any _ _ _).mono ?_; rintro e w' ⟨rfl, rfl⟩))
    go_ret2
    refine ⟨rfl, ?_⟩
    repeat' first | (with_reducible first | apply zRf | assumption | apply zDn | apply zDr | apply zAl | apply zSt | refine zVi (by assumption) ?_ ?_) | go_size
end Go.Proofs.Ytldonmcbnhgbdaa
