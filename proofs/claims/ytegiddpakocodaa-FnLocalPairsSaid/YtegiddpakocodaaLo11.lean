/- LiftsModulo: both sides, and the walk of the law. -/
import Derived.Test.YtegiddpakocodaaLo10
import Derived.Test.YtegiddpakocodaaToL
namespace Go.Proofs.Ytegiddpakocodaa
open Go.RowKit
set_option linter.unusedVariables false
set_option maxHeartbeats 4000000
set_option maxRecDepth 20000
set_option linter.unusedSimpArgs false
theorem top_exists {p : Int} (hp : 2 ≤ p) : ∀ f : Nat, 1000000000 < p ^ f → ∃ k, p ^ k ≤ 1000000000 ∧ 1000000000 < p ^ (k + 1)
  | 0, h => by simp at h
  | f + 1, h => by
    by_cases h2 : p ^ f ≤ 1000000000
    · exact ⟨f, h2, h⟩
    · exact top_exists hp f (by omega)
theorem dp_pow {p : Int} (hp : 2 ≤ p) {k : Nat} (h : k ≤ dp p) : p ^ k ≤ 1000000000 := by
  have h31 : 1000000000 < p ^ 31 := by
    have h1 := pow_base hp 31
    have h3 : (2 : Int) ^ 31 = 2147483648 := by decide
    omega
  obtain ⟨j, h1, h2⟩ := top_exists hp 31 h31
  rw [dp_eq hp h1 h2] at h
  have := pow_mono' (p := p) (by omega) h
  omega
theorem dp_lt {p : Int} (hp : 2 ≤ p) : dp p < 31 := depth_lt hp (dp_pow hp (Nat.le_refl _))
theorem mdPB_bd {p : Int} (h : mdPB p = true) : 2 ≤ p ∧ p ≤ 997 ∧ inB p 2 997 = true ∧ primeB p = true := by
  simp only [mdPB, Bool.and_eq_true] at h
  have := inB_iff.1 h.1
  exact ⟨this.1, this.2, h.1, h.2⟩
theorem deB_bd {p k : Int} (h : deB p k = true) : mdPB p = true ∧ inB k 1 (dp p) = true ∧ ∃ n : Nat, k = n ∧ 1 ≤ n ∧ n ≤ 1000 ∧ p ^ n ≤ 1000000000 ∧ n ≤ dp p := by
  simp only [deB, Bool.and_eq_true] at h
  obtain ⟨h1, h2⟩ := h
  have hb := mdPB_bd h1
  have hk := inB_iff.1 h2
  have hd := dp_lt hb.1
  refine ⟨h1, h2, k.toNat, by omega, by omega, by omega, dp_pow hb.1 (by omega), by omega⟩
theorem paB_bd {m e p n : Int} (hn : 2 ≤ n) (h : paB m e p n = true) : (0 ≤ m ∧ m < n) ∧ (0 ≤ e ∧ e < n) := by
  simp [paB, inB] at h
  omega
def lmB (d a c m e p k : Int) : Bool := qaB d a c && (deB p k && paB m e p (p ^ k.toNat))
def lmV (d a c m e p k : Int) : Bool := lmB d a c m e p k && liB d a c m e p k.toNat
theorem sLiftsModulo_any (d a c m e p k : Int) (w : World) : Calls Try.prog 11 #[.agg #[.int .i64 d, .int .i64 a, .int .i64 c], .int .i64 m, .int .i64 e, .int .i64 p, .int .i64 k] w fun r w' =>
    r = .returned (.tuple #[.bool (lmV d a c m e p k), .bool (lmB d a c m e p k)]) ∧ Below w.heap.size w w' := by
  have T1 := fun W : World => Lib.hid (loGood_any d a c W)
  have T2 := fun W : World => Lib.hid (loDepthOf_any p k W)
  have hnot : ∀ (x : Bool) (w : World), (Op.unary .not (.bool x)).run Try.prog w = .ok (.bool (!x)) w := fun _ _ => rfl
  cases h1 : qaB d a c
  · rw [show lmV d a c m e p k = false by simp [lmV, lmB, h1], show lmB d a c m e p k = false by simp [lmB, h1]]
    rw [h1] at T1
    have T3 := T1
    have T4 := T1
    clear h1
    have tok1 : True := trivial
    have tok2 : True := trivial
    go_enter Try.func11, Try.ntmps11
    go_wp2_with (first | (have _t := tok1; go_at_call 28; (with_reducible refine ((T1 _).out).mono ?_); rintro e w1 ⟨rfl, hb1⟩; clear tok1 _t; have hz1 := hb1.size; (try simp only [World.size_alloc, World.size_setCell, World.size_drew, World.size_drewN'] at hz1); (try (have kq := cellAt hb1 (w.heap.size) (by go_size); have k1_w_0_0 := kq 0; have k1_w_0_1 := kq 1; have k1_w_0_2 := kq 2; clear kq; have f1_w_0 := frozAt hb1 (w.heap.size) (by go_size); simp [go_sem, *] at k1_w_0_0 k1_w_0_1 k1_w_0_2 f1_w_0)); (try have l1_w_0 : w.heap.size < w1.heap.size := by omega)) | (go_at_call 37; (with_reducible refine ((T2 _).out).mono ?_); rintro e w' ⟨rfl, rfl⟩) | (go_at_call 43; (with_reducible refine ((T3 _).out).mono ?_); rintro e w' ⟨rfl, rfl⟩) | (have _t := tok2; go_at_call 44; (with_reducible refine ((T4 _).out).mono ?_); rintro e w2 ⟨rfl, hb2⟩; clear tok2 _t; have hz2 := hb2.size; (try simp only [World.size_alloc, World.size_setCell, World.size_drew, World.size_drewN'] at hz2); (try (have kq := cellAt hb2 (w.heap.size) (by go_size); have k2_w_0_0 := kq 0; have k2_w_0_1 := kq 1; have k2_w_0_2 := kq 2; clear kq; have f2_w_0 := frozAt hb2 (w.heap.size) (by go_size); simp [go_sem, *] at k2_w_0_0 k2_w_0_1 k2_w_0_2 f2_w_0)); (try have l2_w_0 : w.heap.size < w2.heap.size := by omega); (try clear k1_w_0_0 k1_w_0_1 k1_w_0_2 f1_w_0); (try clear l1_w_0)))
    go_ret2
    refine ⟨rfl, ?_⟩
    repeat' first | (with_reducible first | apply zRf | assumption | apply zDn | apply zDr | apply zAl | apply zSt | refine zVi (by assumption) ?_ ?_) | go_size
  · rw [h1] at T1
    cases h2 : deB p k
    · rw [show lmV d a c m e p k = false by simp [lmV, lmB, h2], show lmB d a c m e p k = false by simp [lmB, h2]]
      rw [h2] at T2
      have T3 := T1
      have T4 := T1
      clear h1 h2
      have tok1 : True := trivial
      have tok2 : True := trivial
      go_enter Try.func11, Try.ntmps11
      go_wp2_with (first | (have _t := tok1; go_at_call 28; (with_reducible refine ((T1 _).out).mono ?_); rintro e w1 ⟨rfl, hb1⟩; clear tok1 _t; have hz1 := hb1.size; (try simp only [World.size_alloc, World.size_setCell, World.size_drew, World.size_drewN'] at hz1); (try (have kq := cellAt hb1 (w.heap.size) (by go_size); have k1_w_0_0 := kq 0; have k1_w_0_1 := kq 1; have k1_w_0_2 := kq 2; clear kq; have f1_w_0 := frozAt hb1 (w.heap.size) (by go_size); simp [go_sem, *] at k1_w_0_0 k1_w_0_1 k1_w_0_2 f1_w_0)); (try have l1_w_0 : w.heap.size < w1.heap.size := by omega)) | (go_at_call 37; (with_reducible refine ((T2 _).out).mono ?_); rintro e w' ⟨rfl, rfl⟩) | (go_at_call 43; (with_reducible refine ((T3 _).out).mono ?_); rintro e w' ⟨rfl, rfl⟩) | (have _t := tok2; go_at_call 44; (with_reducible refine ((T4 _).out).mono ?_); rintro e w2 ⟨rfl, hb2⟩; clear tok2 _t; have hz2 := hb2.size; (try simp only [World.size_alloc, World.size_setCell, World.size_drew, World.size_drewN'] at hz2); (try (have kq := cellAt hb2 (w.heap.size) (by go_size); have k2_w_0_0 := kq 0; have k2_w_0_1 := kq 1; have k2_w_0_2 := kq 2; clear kq; have f2_w_0 := frozAt hb2 (w.heap.size) (by go_size); simp [go_sem, *] at k2_w_0_0 k2_w_0_1 k2_w_0_2 f2_w_0)); (try have l2_w_0 : w.heap.size < w2.heap.size := by omega); (try clear k1_w_0_0 k1_w_0_1 k1_w_0_2 f1_w_0); (try clear l1_w_0)))
      go_ret2
      refine ⟨rfl, ?_⟩
      repeat' first | (with_reducible first | apply zRf | assumption | apply zDn | apply zDr | apply zAl | apply zSt | refine zVi (by assumption) ?_ ?_) | go_size
    · rw [h2] at T2
      obtain ⟨g1, g2, n, rfl, n1, n2, n3, n4⟩ := deB_bd h2
      have pb := mdPB_bd g1
      have T3 := fun W : World => Lib.hid (loPair_any m e p n W pb.1 (by omega) n2 n3)
      cases h3 : paB m e p (p ^ n)
      · rw [show lmV d a c m e p n = false by simp [lmV, lmB, h3], show lmB d a c m e p n = false by simp [lmB, h3]]
        rw [h3] at T3
        have T4 := T1
        clear h1 h2 h3 g1 g2 pb n1 n2 n3 n4
        generalize (n : Int) = kk at *
        have tok1 : True := trivial
        have tok2 : True := trivial
        go_enter Try.func11, Try.ntmps11
        go_wp2_with (first | (have _t := tok1; go_at_call 28; (with_reducible refine ((T1 _).out).mono ?_); rintro e w1 ⟨rfl, hb1⟩; clear tok1 _t; have hz1 := hb1.size; (try simp only [World.size_alloc, World.size_setCell, World.size_drew, World.size_drewN'] at hz1); (try (have kq := cellAt hb1 (w.heap.size) (by go_size); have k1_w_0_0 := kq 0; have k1_w_0_1 := kq 1; have k1_w_0_2 := kq 2; clear kq; have f1_w_0 := frozAt hb1 (w.heap.size) (by go_size); simp [go_sem, *] at k1_w_0_0 k1_w_0_1 k1_w_0_2 f1_w_0)); (try have l1_w_0 : w.heap.size < w1.heap.size := by omega)) | (go_at_call 37; (with_reducible refine ((T2 _).out).mono ?_); rintro e w' ⟨rfl, rfl⟩) | (go_at_call 43; (with_reducible refine ((T3 _).out).mono ?_); rintro e w' ⟨rfl, rfl⟩) | (have _t := tok2; go_at_call 44; (with_reducible refine ((T4 _).out).mono ?_); rintro e w2 ⟨rfl, hb2⟩; clear tok2 _t; have hz2 := hb2.size; (try simp only [World.size_alloc, World.size_setCell, World.size_drew, World.size_drewN'] at hz2); (try (have kq := cellAt hb2 (w.heap.size) (by go_size); have k2_w_0_0 := kq 0; have k2_w_0_1 := kq 1; have k2_w_0_2 := kq 2; clear kq; have f2_w_0 := frozAt hb2 (w.heap.size) (by go_size); simp [go_sem, *] at k2_w_0_0 k2_w_0_1 k2_w_0_2 f2_w_0)); (try have l2_w_0 : w.heap.size < w2.heap.size := by omega); (try clear k1_w_0_0 k1_w_0_1 k1_w_0_2 f1_w_0); (try clear l1_w_0)))
        go_ret2
        refine ⟨rfl, ?_⟩
        repeat' first | (with_reducible first | apply zRf | assumption | apply zDn | apply zDr | apply zAl | apply zSt | refine zVi (by assumption) ?_ ?_) | go_size
      · have hn := pow_mono' (p := p) (by omega) n1
        rw [show p ^ 1 = p by rw [Int.pow_succ, Int.pow_zero, Int.one_mul]] at hn
        have mb := paB_bd (show 2 ≤ p ^ n by omega) h3
        have T4 := fun W : World => Lib.hid (loLifts_any d a c m e p n W pb.1 (by omega) n1 n2 n3 mb.1 mb.2)
        rw [show lmV d a c m e p n = liB d a c m e p n by simp [lmV, lmB, h1, h2, h3], show lmB d a c m e p n = true by simp [lmB, h1, h2, h3]]
        rw [h3] at T3
        clear h1 h2 h3 g1 g2 pb n1 n2 n3 n4 mb hn
        generalize liB d a c m e p n = x at *
        generalize poB d a c m e p n = y at *
        generalize (n : Int) = kk at *
        have tok1 : True := trivial
        have tok2 : True := trivial
        go_enter Try.func11, Try.ntmps11
        go_wp2_with (first | (have _t := tok1; go_at_call 28; (with_reducible refine ((T1 _).out).mono ?_); rintro e w1 ⟨rfl, hb1⟩; clear tok1 _t; have hz1 := hb1.size; (try simp only [World.size_alloc, World.size_setCell, World.size_drew, World.size_drewN'] at hz1); (try (have kq := cellAt hb1 (w.heap.size) (by go_size); have k1_w_0_0 := kq 0; have k1_w_0_1 := kq 1; have k1_w_0_2 := kq 2; clear kq; have f1_w_0 := frozAt hb1 (w.heap.size) (by go_size); simp [go_sem, *] at k1_w_0_0 k1_w_0_1 k1_w_0_2 f1_w_0)); (try have l1_w_0 : w.heap.size < w1.heap.size := by omega)) | (go_at_call 37; (with_reducible refine ((T2 _).out).mono ?_); rintro e w' ⟨rfl, rfl⟩) | (go_at_call 43; (with_reducible refine ((T3 _).out).mono ?_); rintro e w' ⟨rfl, rfl⟩) | (have _t := tok2; go_at_call 44; (with_reducible refine ((T4 _).out).mono ?_); rintro e w2 ⟨rfl, hb2⟩; clear tok2 _t; have hz2 := hb2.size; (try simp only [World.size_alloc, World.size_setCell, World.size_drew, World.size_drewN'] at hz2); (try (have kq := cellAt hb2 (w.heap.size) (by go_size); have k2_w_0_0 := kq 0; have k2_w_0_1 := kq 1; have k2_w_0_2 := kq 2; clear kq; have f2_w_0 := frozAt hb2 (w.heap.size) (by go_size); simp [go_sem, *] at k2_w_0_0 k2_w_0_1 k2_w_0_2 f2_w_0)); (try have l2_w_0 : w.heap.size < w2.heap.size := by omega); (try clear k1_w_0_0 k1_w_0_1 k1_w_0_2 f1_w_0); (try clear l1_w_0)))
        go_ret2
        refine ⟨rfl, ?_⟩
        repeat' first | (with_reducible first | apply zRf | assumption | apply zDn | apply zDr | apply zAl | apply zSt | refine zVi (by assumption) ?_ ?_) | go_size
theorem LiftsModulo_any (d a c m e p k : Int) (w : World) : Calls Try.prog 10 #[.agg #[.int .i64 d, .int .i64 a, .int .i64 c], .int .i64 m, .int .i64 e, .int .i64 p, .int .i64 k] w fun r w' =>
    r = .returned (.tuple #[.bool (lmV d a c m e p k), .bool (lmB d a c m e p k)]) ∧ Below w.heap.size w w' := by
  have T1 := fun W : World => Lib.hid (isQuartic_any d a c W)
  have T2 := fun W : World => Lib.hid (inside_any p 2 997 W)
  have hnot : ∀ (x : Bool) (w : World), (Op.unary .not (.bool x)).run Try.prog w = .ok (.bool (!x)) w := fun _ _ => rfl
  have done : ∀ {P : Prop}, True → True := fun _ => trivial
  cases h1 : qaB d a c
  · rw [show lmV d a c m e p k = false by simp [lmV, lmB, h1], show lmB d a c m e p k = false by simp [lmB, h1]]
    rw [h1] at T1
    have T3 := T1; have T4 := T1; have T5 := T1; have T6 := T1; have T7 := T1; have T8 := T1
    clear h1 done
    have tok1 : True := trivial
    have tok2 : True := trivial
    go_enter Try.func10, Try.ntmps10
    go_wp2_with (first | (have _t := tok1; go_at_call 24; (with_reducible refine ((T1 _).out).mono ?_); rintro e w1 ⟨rfl, hb1⟩; clear tok1 _t; have hz1 := hb1.size; (try simp only [World.size_alloc, World.size_setCell, World.size_drew, World.size_drewN'] at hz1); (try (have kq := cellAt hb1 (w.heap.size) (by go_size); have k1_w_0_0 := kq 0; have k1_w_0_1 := kq 1; have k1_w_0_2 := kq 2; clear kq; have f1_w_0 := frozAt hb1 (w.heap.size) (by go_size); simp [go_sem, *] at k1_w_0_0 k1_w_0_1 k1_w_0_2 f1_w_0)); (try have l1_w_0 : w.heap.size < w1.heap.size := by omega)) | (go_at_call 25; (with_reducible refine ((T2 _).out).mono ?_); rintro e w' ⟨rfl, rfl⟩) | (go_at_call 26; (with_reducible refine ((T3 _).out).mono ?_); rintro e w' ⟨rfl, rfl⟩) | (go_at_call 39; (with_reducible refine ((T4 _).out).mono ?_); rintro e w' ⟨rfl, rfl⟩) | (go_at_call 25; (with_reducible refine ((T5 _).out).mono ?_); rintro e w' ⟨rfl, rfl⟩) | (go_at_call 41; (with_reducible refine ((T6 _).out).mono ?_); rintro e w' ⟨rfl, rfl⟩) | (go_at_call 40; (with_reducible refine ((T7 _).out).mono ?_); rintro e w' ⟨rfl, rfl⟩) | (have _t := tok2; go_at_call 42; (with_reducible refine ((T8 _).out).mono ?_); rintro e w2 ⟨rfl, hb2⟩; clear tok2 _t; have hz2 := hb2.size; (try simp only [World.size_alloc, World.size_setCell, World.size_drew, World.size_drewN'] at hz2); (try (have kq := cellAt hb2 (w.heap.size) (by go_size); have k2_w_0_0 := kq 0; have k2_w_0_1 := kq 1; have k2_w_0_2 := kq 2; clear kq; have f2_w_0 := frozAt hb2 (w.heap.size) (by go_size); simp [go_sem, *] at k2_w_0_0 k2_w_0_1 k2_w_0_2 f2_w_0)); (try have l2_w_0 : w.heap.size < w2.heap.size := by omega); (try clear k1_w_0_0 k1_w_0_1 k1_w_0_2 f1_w_0); (try clear l1_w_0)))
    go_ret2
    refine ⟨rfl, ?_⟩
    repeat' first | (with_reducible first | apply zRf | assumption | apply zDn | apply zDr | apply zAl | apply zSt | refine zVi (by assumption) ?_ ?_) | go_size
  · rw [h1] at T1
    cases h2 : inB p 2 997
    · rw [show lmV d a c m e p k = false by simp [lmV, lmB, deB, mdPB, h2], show lmB d a c m e p k = false by simp [lmB, deB, mdPB, h2]]
      rw [h2] at T2
      have T3 := T1; have T4 := T1; have T5 := T1; have T6 := T1; have T7 := T1; have T8 := T1
      clear h1 h2 done
      have tok1 : True := trivial
      have tok2 : True := trivial
      go_enter Try.func10, Try.ntmps10
      go_wp2_with (first | (have _t := tok1; go_at_call 24; (with_reducible refine ((T1 _).out).mono ?_); rintro e w1 ⟨rfl, hb1⟩; clear tok1 _t; have hz1 := hb1.size; (try simp only [World.size_alloc, World.size_setCell, World.size_drew, World.size_drewN'] at hz1); (try (have kq := cellAt hb1 (w.heap.size) (by go_size); have k1_w_0_0 := kq 0; have k1_w_0_1 := kq 1; have k1_w_0_2 := kq 2; clear kq; have f1_w_0 := frozAt hb1 (w.heap.size) (by go_size); simp [go_sem, *] at k1_w_0_0 k1_w_0_1 k1_w_0_2 f1_w_0)); (try have l1_w_0 : w.heap.size < w1.heap.size := by omega)) | (go_at_call 25; (with_reducible refine ((T2 _).out).mono ?_); rintro e w' ⟨rfl, rfl⟩) | (go_at_call 26; (with_reducible refine ((T3 _).out).mono ?_); rintro e w' ⟨rfl, rfl⟩) | (go_at_call 39; (with_reducible refine ((T4 _).out).mono ?_); rintro e w' ⟨rfl, rfl⟩) | (go_at_call 25; (with_reducible refine ((T5 _).out).mono ?_); rintro e w' ⟨rfl, rfl⟩) | (go_at_call 41; (with_reducible refine ((T6 _).out).mono ?_); rintro e w' ⟨rfl, rfl⟩) | (go_at_call 40; (with_reducible refine ((T7 _).out).mono ?_); rintro e w' ⟨rfl, rfl⟩) | (have _t := tok2; go_at_call 42; (with_reducible refine ((T8 _).out).mono ?_); rintro e w2 ⟨rfl, hb2⟩; clear tok2 _t; have hz2 := hb2.size; (try simp only [World.size_alloc, World.size_setCell, World.size_drew, World.size_drewN'] at hz2); (try (have kq := cellAt hb2 (w.heap.size) (by go_size); have k2_w_0_0 := kq 0; have k2_w_0_1 := kq 1; have k2_w_0_2 := kq 2; clear kq; have f2_w_0 := frozAt hb2 (w.heap.size) (by go_size); simp [go_sem, *] at k2_w_0_0 k2_w_0_1 k2_w_0_2 f2_w_0)); (try have l2_w_0 : w.heap.size < w2.heap.size := by omega); (try clear k1_w_0_0 k1_w_0_1 k1_w_0_2 f1_w_0); (try clear l1_w_0)))
      go_ret2
      refine ⟨rfl, ?_⟩
      repeat' first | (with_reducible first | apply zRf | assumption | apply zDn | apply zDr | apply zAl | apply zSt | refine zVi (by assumption) ?_ ?_) | go_size
    · rw [h2] at T2
      have pb := inB_iff.1 h2
      have T3 := fun W : World => Lib.hid (isPrime_any p W pb.1 (by omega))
      have T4 := fun W : World => Lib.hid (depth_any p W pb.1 (by omega))
      have T5 := fun W : World => Lib.hid (inside_any k 1 (dp p) W)
      cases h3 : primeB p
      · rw [show lmV d a c m e p k = false by simp [lmV, lmB, deB, mdPB, h3], show lmB d a c m e p k = false by simp [lmB, deB, mdPB, h3]]
        rw [h3] at T3
        have T6 := T1; have T7 := T1; have T8 := T1
        clear h1 h2 h3 pb done
        generalize ((dp p : Nat) : Int) = dd at *
        have tok1 : True := trivial
        have tok2 : True := trivial
        go_enter Try.func10, Try.ntmps10
        go_wp2_with (first | (have _t := tok1; go_at_call 24; (with_reducible refine ((T1 _).out).mono ?_); rintro e w1 ⟨rfl, hb1⟩; clear tok1 _t; have hz1 := hb1.size; (try simp only [World.size_alloc, World.size_setCell, World.size_drew, World.size_drewN'] at hz1); (try (have kq := cellAt hb1 (w.heap.size) (by go_size); have k1_w_0_0 := kq 0; have k1_w_0_1 := kq 1; have k1_w_0_2 := kq 2; clear kq; have f1_w_0 := frozAt hb1 (w.heap.size) (by go_size); simp [go_sem, *] at k1_w_0_0 k1_w_0_1 k1_w_0_2 f1_w_0)); (try have l1_w_0 : w.heap.size < w1.heap.size := by omega)) | (go_at_call 25; (with_reducible refine ((T2 _).out).mono ?_); rintro e w' ⟨rfl, rfl⟩) | (go_at_call 26; (with_reducible refine ((T3 _).out).mono ?_); rintro e w' ⟨rfl, rfl⟩) | (go_at_call 39; (with_reducible refine ((T4 _).out).mono ?_); rintro e w' ⟨rfl, rfl⟩) | (go_at_call 25; (with_reducible refine ((T5 _).out).mono ?_); rintro e w' ⟨rfl, rfl⟩) | (go_at_call 41; (with_reducible refine ((T6 _).out).mono ?_); rintro e w' ⟨rfl, rfl⟩) | (go_at_call 40; (with_reducible refine ((T7 _).out).mono ?_); rintro e w' ⟨rfl, rfl⟩) | (have _t := tok2; go_at_call 42; (with_reducible refine ((T8 _).out).mono ?_); rintro e w2 ⟨rfl, hb2⟩; clear tok2 _t; have hz2 := hb2.size; (try simp only [World.size_alloc, World.size_setCell, World.size_drew, World.size_drewN'] at hz2); (try (have kq := cellAt hb2 (w.heap.size) (by go_size); have k2_w_0_0 := kq 0; have k2_w_0_1 := kq 1; have k2_w_0_2 := kq 2; clear kq; have f2_w_0 := frozAt hb2 (w.heap.size) (by go_size); simp [go_sem, *] at k2_w_0_0 k2_w_0_1 k2_w_0_2 f2_w_0)); (try have l2_w_0 : w.heap.size < w2.heap.size := by omega); (try clear k1_w_0_0 k1_w_0_1 k1_w_0_2 f1_w_0); (try clear l1_w_0)))
        go_ret2
        refine ⟨rfl, ?_⟩
        repeat' first | (with_reducible first | apply zRf | assumption | apply zDn | apply zDr | apply zAl | apply zSt | refine zVi (by assumption) ?_ ?_) | go_size
      · rw [h3] at T3
        cases h4 : inB k 1 (dp p)
        · rw [show lmV d a c m e p k = false by simp [lmV, lmB, deB, mdPB, h4], show lmB d a c m e p k = false by simp [lmB, deB, mdPB, h4]]
          rw [h4] at T5
          have T6 := T1; have T7 := T1; have T8 := T1
          clear h1 h2 h3 h4 pb done
          generalize ((dp p : Nat) : Int) = dd at *
          have tok1 : True := trivial
          have tok2 : True := trivial
          go_enter Try.func10, Try.ntmps10
          go_wp2_with (first | (have _t := tok1; go_at_call 24; (with_reducible refine ((T1 _).out).mono ?_); rintro e w1 ⟨rfl, hb1⟩; clear tok1 _t; have hz1 := hb1.size; (try simp only [World.size_alloc, World.size_setCell, World.size_drew, World.size_drewN'] at hz1); (try (have kq := cellAt hb1 (w.heap.size) (by go_size); have k1_w_0_0 := kq 0; have k1_w_0_1 := kq 1; have k1_w_0_2 := kq 2; clear kq; have f1_w_0 := frozAt hb1 (w.heap.size) (by go_size); simp [go_sem, *] at k1_w_0_0 k1_w_0_1 k1_w_0_2 f1_w_0)); (try have l1_w_0 : w.heap.size < w1.heap.size := by omega)) | (go_at_call 25; (with_reducible refine ((T2 _).out).mono ?_); rintro e w' ⟨rfl, rfl⟩) | (go_at_call 26; (with_reducible refine ((T3 _).out).mono ?_); rintro e w' ⟨rfl, rfl⟩) | (go_at_call 39; (with_reducible refine ((T4 _).out).mono ?_); rintro e w' ⟨rfl, rfl⟩) | (go_at_call 25; (with_reducible refine ((T5 _).out).mono ?_); rintro e w' ⟨rfl, rfl⟩) | (go_at_call 41; (with_reducible refine ((T6 _).out).mono ?_); rintro e w' ⟨rfl, rfl⟩) | (go_at_call 40; (with_reducible refine ((T7 _).out).mono ?_); rintro e w' ⟨rfl, rfl⟩) | (have _t := tok2; go_at_call 42; (with_reducible refine ((T8 _).out).mono ?_); rintro e w2 ⟨rfl, hb2⟩; clear tok2 _t; have hz2 := hb2.size; (try simp only [World.size_alloc, World.size_setCell, World.size_drew, World.size_drewN'] at hz2); (try (have kq := cellAt hb2 (w.heap.size) (by go_size); have k2_w_0_0 := kq 0; have k2_w_0_1 := kq 1; have k2_w_0_2 := kq 2; clear kq; have f2_w_0 := frozAt hb2 (w.heap.size) (by go_size); simp [go_sem, *] at k2_w_0_0 k2_w_0_1 k2_w_0_2 f2_w_0)); (try have l2_w_0 : w.heap.size < w2.heap.size := by omega); (try clear k1_w_0_0 k1_w_0_1 k1_w_0_2 f1_w_0); (try clear l1_w_0)))
          go_ret2
          refine ⟨rfl, ?_⟩
          repeat' first | (with_reducible first | apply zRf | assumption | apply zDn | apply zDr | apply zAl | apply zSt | refine zVi (by assumption) ?_ ?_) | go_size
        · rw [h4] at T5
          have hde : deB p k = true := by simp [deB, mdPB, h2, h3, h4]
          obtain ⟨g1, g2, n, rfl, n1, n2, n3, n4⟩ := deB_bd hde
          have hn := pow_mono' (p := p) (by omega) n1
          rw [show p ^ 1 = p by rw [Int.pow_succ, Int.pow_zero, Int.one_mul]] at hn
          have T6 := fun W : World => Lib.hid (intPower_any p n W (by omega) (by omega) (by omega) (by rw [Int.toNat_natCast]; omega))
          rw [Int.toNat_natCast] at T6
          have T7 := fun W : World => Lib.hid (isPair_any m e p (p ^ n) W pb.1 (by omega) (by omega) n3)
          cases h5 : paB m e p (p ^ n)
          · rw [show lmV d a c m e p n = false by simp [lmV, lmB, h5], show lmB d a c m e p n = false by simp [lmB, h5]]
            rw [h5] at T7
            have T8 := T1
            clear h1 h2 h3 h4 h5 g1 g2 hde n1 n2 n3 n4 hn pb done
            generalize ((dp p : Nat) : Int) = dd at *
            generalize p ^ n = q at *
            generalize (n : Int) = kk at *
            have tok1 : True := trivial
            have tok2 : True := trivial
            go_enter Try.func10, Try.ntmps10
            go_wp2_with (first | (have _t := tok1; go_at_call 24; (with_reducible refine ((T1 _).out).mono ?_); rintro e w1 ⟨rfl, hb1⟩; clear tok1 _t; have hz1 := hb1.size; (try simp only [World.size_alloc, World.size_setCell, World.size_drew, World.size_drewN'] at hz1); (try (have kq := cellAt hb1 (w.heap.size) (by go_size); have k1_w_0_0 := kq 0; have k1_w_0_1 := kq 1; have k1_w_0_2 := kq 2; clear kq; have f1_w_0 := frozAt hb1 (w.heap.size) (by go_size); simp [go_sem, *] at k1_w_0_0 k1_w_0_1 k1_w_0_2 f1_w_0)); (try have l1_w_0 : w.heap.size < w1.heap.size := by omega)) | (go_at_call 25; (with_reducible refine ((T2 _).out).mono ?_); rintro e w' ⟨rfl, rfl⟩) | (go_at_call 26; (with_reducible refine ((T3 _).out).mono ?_); rintro e w' ⟨rfl, rfl⟩) | (go_at_call 39; (with_reducible refine ((T4 _).out).mono ?_); rintro e w' ⟨rfl, rfl⟩) | (go_at_call 25; (with_reducible refine ((T5 _).out).mono ?_); rintro e w' ⟨rfl, rfl⟩) | (go_at_call 41; (with_reducible refine ((T6 _).out).mono ?_); rintro e w' ⟨rfl, rfl⟩) | (go_at_call 40; (with_reducible refine ((T7 _).out).mono ?_); rintro e w' ⟨rfl, rfl⟩) | (have _t := tok2; go_at_call 42; (with_reducible refine ((T8 _).out).mono ?_); rintro e w2 ⟨rfl, hb2⟩; clear tok2 _t; have hz2 := hb2.size; (try simp only [World.size_alloc, World.size_setCell, World.size_drew, World.size_drewN'] at hz2); (try (have kq := cellAt hb2 (w.heap.size) (by go_size); have k2_w_0_0 := kq 0; have k2_w_0_1 := kq 1; have k2_w_0_2 := kq 2; clear kq; have f2_w_0 := frozAt hb2 (w.heap.size) (by go_size); simp [go_sem, *] at k2_w_0_0 k2_w_0_1 k2_w_0_2 f2_w_0)); (try have l2_w_0 : w.heap.size < w2.heap.size := by omega); (try clear k1_w_0_0 k1_w_0_1 k1_w_0_2 f1_w_0); (try clear l1_w_0)))
            go_ret2
            refine ⟨rfl, ?_⟩
            repeat' first | (with_reducible first | apply zRf | assumption | apply zDn | apply zDr | apply zAl | apply zSt | refine zVi (by assumption) ?_ ?_) | go_size
          · rw [h5] at T7
            have T8 := fun W : World => Lib.hid (lifts_any d a c m e p n W pb.1 (by omega) n1 n2 n3)
            rw [show lmV d a c m e p n = liB d a c m e p n by simp [lmV, lmB, h1, hde, h5], show lmB d a c m e p n = true by simp [lmB, h1, hde, h5]]
            clear h1 h2 h3 h4 h5 g1 g2 hde n1 n2 n3 n4 hn pb done
            generalize liB d a c m e p n = x at *
            generalize ((dp p : Nat) : Int) = dd at *
            generalize p ^ n = q at *
            generalize (n : Int) = kk at *
            have tok1 : True := trivial
            have tok2 : True := trivial
            go_enter Try.func10, Try.ntmps10
            go_wp2_with (first | (have _t := tok1; go_at_call 24; (with_reducible refine ((T1 _).out).mono ?_); rintro e w1 ⟨rfl, hb1⟩; clear tok1 _t; have hz1 := hb1.size; (try simp only [World.size_alloc, World.size_setCell, World.size_drew, World.size_drewN'] at hz1); (try (have kq := cellAt hb1 (w.heap.size) (by go_size); have k1_w_0_0 := kq 0; have k1_w_0_1 := kq 1; have k1_w_0_2 := kq 2; clear kq; have f1_w_0 := frozAt hb1 (w.heap.size) (by go_size); simp [go_sem, *] at k1_w_0_0 k1_w_0_1 k1_w_0_2 f1_w_0)); (try have l1_w_0 : w.heap.size < w1.heap.size := by omega)) | (go_at_call 25; (with_reducible refine ((T2 _).out).mono ?_); rintro e w' ⟨rfl, rfl⟩) | (go_at_call 26; (with_reducible refine ((T3 _).out).mono ?_); rintro e w' ⟨rfl, rfl⟩) | (go_at_call 39; (with_reducible refine ((T4 _).out).mono ?_); rintro e w' ⟨rfl, rfl⟩) | (go_at_call 25; (with_reducible refine ((T5 _).out).mono ?_); rintro e w' ⟨rfl, rfl⟩) | (go_at_call 41; (with_reducible refine ((T6 _).out).mono ?_); rintro e w' ⟨rfl, rfl⟩) | (go_at_call 40; (with_reducible refine ((T7 _).out).mono ?_); rintro e w' ⟨rfl, rfl⟩) | (have _t := tok2; go_at_call 42; (with_reducible refine ((T8 _).out).mono ?_); rintro e w2 ⟨rfl, hb2⟩; clear tok2 _t; have hz2 := hb2.size; (try simp only [World.size_alloc, World.size_setCell, World.size_drew, World.size_drewN'] at hz2); (try (have kq := cellAt hb2 (w.heap.size) (by go_size); have k2_w_0_0 := kq 0; have k2_w_0_1 := kq 1; have k2_w_0_2 := kq 2; clear kq; have f2_w_0 := frozAt hb2 (w.heap.size) (by go_size); simp [go_sem, *] at k2_w_0_0 k2_w_0_1 k2_w_0_2 f2_w_0)); (try have l2_w_0 : w.heap.size < w2.heap.size := by omega); (try clear k1_w_0_0 k1_w_0_1 k1_w_0_2 f1_w_0); (try clear l1_w_0)))
            go_ret2
            refine ⟨rfl, ?_⟩
            repeat' first | (with_reducible first | apply zRf | assumption | apply zDn | apply zDr | apply zAl | apply zSt | refine zVi (by assumption) ?_ ?_) | go_size
end Go.Proofs.Ytegiddpakocodaa
