/- Lemmas and contracts of functions. No condition. -/
import Derived.Test.YtfbegjiebahdcaaPk33
namespace Go.Proofs.Ytfbegjiebahdcaa
open Go.RowKit
set_option linter.unusedVariables false
set_option maxHeartbeats 1000000
set_option maxRecDepth 20000
set_option linter.unusedSimpArgs false
attribute [local go_sem] openAt openUpon
theorem sHeightAt_any (A B x y e n : Int) (w : World) : Calls Try.prog 37 #[.agg #[.int .i64 A, .int .i64 B], .agg #[.int .i64 x, .int .i64 y, .int .i64 e], .int .i64 n] w fun r w' =>
    r = .returned (.tuple #[.agg #[.int .i64 (haV A B x y e n).1, .int .i64 (haV A B x y e n).2.1, .int .i64 (haV A B x y e n).2.2.1, .int .i64 (haV A B x y e n).2.2.2.1], .bool (haV A B x y e n).2.2.2.2]) ∧ Below w.heap.size w w' := by
  have T1 := fun W : World => Lib.hid (chAsked_any A B x y e n W)
  rcases haV_cases A B x y e n with ⟨h1, e1⟩ | ⟨h1, ⟨h2, e1⟩ | ⟨h2, e1⟩⟩
  · rw [e1]
    have T3 := T1
    rw [h1, Bool.false_and] at T1
    unfold ivZ
    clear h1 e1
    have tok1 : True := trivial
    have tok2 : True := trivial
    go_enter Try.func37, Try.ntmps37
    go_wp2_with (first | (have _t := tok1; go_at_call 71; (with_reducible refine ((T1 _).out).mono ?_); rintro e w1 ⟨rfl, hb1⟩; clear tok1 _t; have hz1 := hb1.size; (try simp only [World.size_alloc, World.size_setCell, World.size_drew, World.size_drewN'] at hz1); (try (have kq := cellAt hb1 (w.heap.size) (by go_size); have k1_w_0_0 := kq 0; have k1_w_0_1 := kq 1; clear kq; have f1_w_0 := frozAt hb1 (w.heap.size) (by go_size); simp [go_sem, *] at k1_w_0_0 k1_w_0_1 f1_w_0)); (try have l1_w_0 : w.heap.size < w1.heap.size := by omega); (try (have kq := cellAt hb1 (w.heap.size + 1) (by go_size); have k1_w_1_0 := kq 0; have k1_w_1_1 := kq 1; have k1_w_1_2 := kq 2; clear kq; have f1_w_1 := frozAt hb1 (w.heap.size + 1) (by go_size); simp [go_sem, *] at k1_w_1_0 k1_w_1_1 k1_w_1_2 f1_w_1)); (try have l1_w_1 : w.heap.size + 1 < w1.heap.size := by omega); (try (have kq := cellAt hb1 (w.heap.size + 1 + 1) (by go_size); have k1_w_2_0 := kq 0; have k1_w_2_1 := kq 1; have k1_w_2_2 := kq 2; have k1_w_2_3 := kq 3; clear kq; have f1_w_2 := frozAt hb1 (w.heap.size + 1 + 1) (by go_size); simp [go_sem, *] at k1_w_2_0 k1_w_2_1 k1_w_2_2 k1_w_2_3 f1_w_2)); (try have l1_w_2 : w.heap.size + 1 + 1 < w1.heap.size := by omega)))
    refine bodyPost_ret (v := _) (by simp [results, Try.results37, go_sem, *]) rfl ⟨rfl, ?_⟩
    repeat' first | (with_reducible first | apply zRf | assumption | apply zDn | apply zDr | apply zAl | apply zSt | refine zVi (by assumption) ?_ ?_) | go_size
  · rw [e1]
    have T3 := T1
    rw [h1, h2, Bool.and_false] at T1
    unfold ivZ
    clear h1 h2 e1
    have tok1 : True := trivial
    have tok2 : True := trivial
    go_enter Try.func37, Try.ntmps37
    go_wp2_with (first | (have _t := tok1; go_at_call 71; (with_reducible refine ((T1 _).out).mono ?_); rintro e w1 ⟨rfl, hb1⟩; clear tok1 _t; have hz1 := hb1.size; (try simp only [World.size_alloc, World.size_setCell, World.size_drew, World.size_drewN'] at hz1); (try (have kq := cellAt hb1 (w.heap.size) (by go_size); have k1_w_0_0 := kq 0; have k1_w_0_1 := kq 1; clear kq; have f1_w_0 := frozAt hb1 (w.heap.size) (by go_size); simp [go_sem, *] at k1_w_0_0 k1_w_0_1 f1_w_0)); (try have l1_w_0 : w.heap.size < w1.heap.size := by omega); (try (have kq := cellAt hb1 (w.heap.size + 1) (by go_size); have k1_w_1_0 := kq 0; have k1_w_1_1 := kq 1; have k1_w_1_2 := kq 2; clear kq; have f1_w_1 := frozAt hb1 (w.heap.size + 1) (by go_size); simp [go_sem, *] at k1_w_1_0 k1_w_1_1 k1_w_1_2 f1_w_1)); (try have l1_w_1 : w.heap.size + 1 < w1.heap.size := by omega); (try (have kq := cellAt hb1 (w.heap.size + 1 + 1) (by go_size); have k1_w_2_0 := kq 0; have k1_w_2_1 := kq 1; have k1_w_2_2 := kq 2; have k1_w_2_3 := kq 3; clear kq; have f1_w_2 := frozAt hb1 (w.heap.size + 1 + 1) (by go_size); simp [go_sem, *] at k1_w_2_0 k1_w_2_1 k1_w_2_2 k1_w_2_3 f1_w_2)); (try have l1_w_2 : w.heap.size + 1 + 1 < w1.heap.size := by omega)))
    refine bodyPost_ret (v := _) (by simp [results, Try.results37, go_sem, *]) rfl ⟨rfl, ?_⟩
    repeat' first | (with_reducible first | apply zRf | assumption | apply zDn | apply zDr | apply zAl | apply zSt | refine zVi (by assumption) ?_ ?_) | go_size
  · rw [e1]
    have hb := pq_bd h1
    have hk := inB_iff.1 h2
    obtain ⟨k, rfl⟩ : ∃ k : Nat, n = k := ⟨n.toNat, by omega⟩
    rw [Int.toNat_natCast]
    have T3 := fun W : World => Lib.hid (chHeight_any A B x y e k W hb.1 hb.2.1 hb.2.2.1 hb.2.2.2.1 hb.2.2.2.2 (by omega))
    rw [ivV] at T3
    rw [h1, h2, Bool.and_self] at T1
    unfold iv5
    clear h1 h2 e1 hb hk
    generalize ivN1 (htOk (ptSt A B x e k)) (htLo (dcV A B) k (ptSt A B x e k)) (htHi (dcV A B) k (ptSt A B x e k)) = i1 at *
    generalize ivD1 (htOk (ptSt A B x e k)) (htLo (dcV A B) k (ptSt A B x e k)) (htHi (dcV A B) k (ptSt A B x e k)) = i2 at *
    generalize ivN2 (htOk (ptSt A B x e k)) (htLo (dcV A B) k (ptSt A B x e k)) (htHi (dcV A B) k (ptSt A B x e k)) = i3 at *
    generalize ivD2 (htOk (ptSt A B x e k)) (htLo (dcV A B) k (ptSt A B x e k)) (htHi (dcV A B) k (ptSt A B x e k)) = i4 at *
    generalize (htOk (ptSt A B x e k) && validB (htLo (dcV A B) k (ptSt A B x e k)) (htHi (dcV A B) k (ptSt A B x e k))) = i5 at *
    have tok1 : True := trivial
    have tok2 : True := trivial
    go_enter Try.func37, Try.ntmps37
    go_wp2_with (first | (have _t := tok1; go_at_call 71; (with_reducible refine ((T1 _).out).mono ?_); rintro e w1 ⟨rfl, hb1⟩; clear tok1 _t; have hz1 := hb1.size; (try simp only [World.size_alloc, World.size_setCell, World.size_drew, World.size_drewN'] at hz1); (try (have kq := cellAt hb1 (w.heap.size) (by go_size); have k1_w_0_0 := kq 0; have k1_w_0_1 := kq 1; clear kq; have f1_w_0 := frozAt hb1 (w.heap.size) (by go_size); simp [go_sem, *] at k1_w_0_0 k1_w_0_1 f1_w_0)); (try have l1_w_0 : w.heap.size < w1.heap.size := by omega); (try (have kq := cellAt hb1 (w.heap.size + 1) (by go_size); have k1_w_1_0 := kq 0; have k1_w_1_1 := kq 1; have k1_w_1_2 := kq 2; clear kq; have f1_w_1 := frozAt hb1 (w.heap.size + 1) (by go_size); simp [go_sem, *] at k1_w_1_0 k1_w_1_1 k1_w_1_2 f1_w_1)); (try have l1_w_1 : w.heap.size + 1 < w1.heap.size := by omega); (try (have kq := cellAt hb1 (w.heap.size + 1 + 1) (by go_size); have k1_w_2_0 := kq 0; have k1_w_2_1 := kq 1; have k1_w_2_2 := kq 2; have k1_w_2_3 := kq 3; clear kq; have f1_w_2 := frozAt hb1 (w.heap.size + 1 + 1) (by go_size); simp [go_sem, *] at k1_w_2_0 k1_w_2_1 k1_w_2_2 k1_w_2_3 f1_w_2)); (try have l1_w_2 : w.heap.size + 1 + 1 < w1.heap.size := by omega)) | (have _t := tok2; go_at_call 76; (with_reducible refine ((T3 _).out).mono ?_); rintro e w2 ⟨rfl, hb2⟩; clear tok2 _t; have hz2 := hb2.size; (try simp only [World.size_alloc, World.size_setCell, World.size_drew, World.size_drewN'] at hz2); (try (have kq := cellAt hb2 (w.heap.size) (by go_size); have k2_w_0_0 := kq 0; have k2_w_0_1 := kq 1; clear kq; have f2_w_0 := frozAt hb2 (w.heap.size) (by go_size); simp [go_sem, *] at k2_w_0_0 k2_w_0_1 f2_w_0)); (try have l2_w_0 : w.heap.size < w2.heap.size := by omega); (try (have kq := cellAt hb2 (w.heap.size + 1) (by go_size); have k2_w_1_0 := kq 0; have k2_w_1_1 := kq 1; have k2_w_1_2 := kq 2; clear kq; have f2_w_1 := frozAt hb2 (w.heap.size + 1) (by go_size); simp [go_sem, *] at k2_w_1_0 k2_w_1_1 k2_w_1_2 f2_w_1)); (try have l2_w_1 : w.heap.size + 1 < w2.heap.size := by omega); (try (have kq := cellAt hb2 (w.heap.size + 1 + 1) (by go_size); have k2_w_2_0 := kq 0; have k2_w_2_1 := kq 1; have k2_w_2_2 := kq 2; have k2_w_2_3 := kq 3; clear kq; have f2_w_2 := frozAt hb2 (w.heap.size + 1 + 1) (by go_size); simp [go_sem, *] at k2_w_2_0 k2_w_2_1 k2_w_2_2 k2_w_2_3 f2_w_2)); (try have l2_w_2 : w.heap.size + 1 + 1 < w2.heap.size := by omega); (try clear k1_w_0_0 k1_w_0_1 f1_w_0); (try clear l1_w_0); (try clear k1_w_1_0 k1_w_1_1 k1_w_1_2 f1_w_1); (try clear l1_w_1); (try clear k1_w_2_0 k1_w_2_1 k1_w_2_2 k1_w_2_3 f1_w_2); (try clear l1_w_2)))
    refine bodyPost_ret (v := _) (by simp [results, Try.results37, go_sem, *]) rfl ⟨rfl, ?_⟩
    repeat' first | (with_reducible first | apply zRf | assumption | apply zDn | apply zDr | apply zAl | apply zSt | refine zVi (by assumption) ?_ ?_) | go_size
theorem HeightAt_any (A B x y e n : Int) (w : World) : Calls Try.prog 38 #[.agg #[.int .i64 A, .int .i64 B], .agg #[.int .i64 x, .int .i64 y, .int .i64 e], .int .i64 n] w fun r w' =>
    r = .returned (.tuple #[.agg #[.int .i64 (haV A B x y e n).1, .int .i64 (haV A B x y e n).2.1, .int .i64 (haV A B x y e n).2.2.1, .int .i64 (haV A B x y e n).2.2.2.1], .bool (haV A B x y e n).2.2.2.2]) ∧ Below w.heap.size w w' := by
  have T1 := fun W : World => Lib.hid (isP_any A B x y e W)
  have T2 := fun W : World => Lib.hid (inside_any n 0 5 W)
  rcases haV_cases A B x y e n with ⟨h1, e1⟩ | ⟨h1, ⟨h2, e1⟩ | ⟨h2, e1⟩⟩
  · rw [e1]
    have T3 := T1
    have T4 := T1
    rw [h1] at T1
    unfold ivZ
    clear h1 e1
    have tok1 : True := trivial
    have tok2 : True := trivial
    have tok3 : True := trivial
    go_enter Try.func38, Try.ntmps38
    go_wp2_with (first | (have _t := tok1; go_at_call 74; (with_reducible refine ((T1 _).out).mono ?_); rintro e w1 ⟨rfl, hb1⟩; clear tok1 _t; have hz1 := hb1.size; (try simp only [World.size_alloc, World.size_setCell, World.size_drew, World.size_drewN'] at hz1); (try (have kq := cellAt hb1 (w.heap.size) (by go_size); have k1_w_0_0 := kq 0; have k1_w_0_1 := kq 1; clear kq; have f1_w_0 := frozAt hb1 (w.heap.size) (by go_size); simp [go_sem, *] at k1_w_0_0 k1_w_0_1 f1_w_0)); (try have l1_w_0 : w.heap.size < w1.heap.size := by omega); (try (have kq := cellAt hb1 (w.heap.size + 1) (by go_size); have k1_w_1_0 := kq 0; have k1_w_1_1 := kq 1; have k1_w_1_2 := kq 2; clear kq; have f1_w_1 := frozAt hb1 (w.heap.size + 1) (by go_size); simp [go_sem, *] at k1_w_1_0 k1_w_1_1 k1_w_1_2 f1_w_1)); (try have l1_w_1 : w.heap.size + 1 < w1.heap.size := by omega); (try (have kq := cellAt hb1 (w.heap.size + 1 + 1) (by go_size); have k1_w_2_0 := kq 0; have k1_w_2_1 := kq 1; have k1_w_2_2 := kq 2; have k1_w_2_3 := kq 3; clear kq; have f1_w_2 := frozAt hb1 (w.heap.size + 1 + 1) (by go_size); simp [go_sem, *] at k1_w_2_0 k1_w_2_1 k1_w_2_2 k1_w_2_3 f1_w_2)); (try have l1_w_2 : w.heap.size + 1 + 1 < w1.heap.size := by omega)))
    refine bodyPost_ret (v := _) (by simp [results, Try.results38, go_sem, *]) rfl ⟨rfl, ?_⟩
    repeat' first | (with_reducible first | apply zRf | assumption | apply zDn | apply zDr | apply zAl | apply zSt | refine zVi (by assumption) ?_ ?_) | go_size
  · rw [e1]
    have T3 := T1
    have T4 := T1
    rw [h1] at T1
    rw [h2] at T2
    unfold ivZ
    clear h1 h2 e1
    have tok1 : True := trivial
    have tok2 : True := trivial
    have tok3 : True := trivial
    go_enter Try.func38, Try.ntmps38
    go_wp2_with (first | (have _t := tok1; go_at_call 74; (with_reducible refine ((T1 _).out).mono ?_); rintro e w1 ⟨rfl, hb1⟩; clear tok1 _t; have hz1 := hb1.size; (try simp only [World.size_alloc, World.size_setCell, World.size_drew, World.size_drewN'] at hz1); (try (have kq := cellAt hb1 (w.heap.size) (by go_size); have k1_w_0_0 := kq 0; have k1_w_0_1 := kq 1; clear kq; have f1_w_0 := frozAt hb1 (w.heap.size) (by go_size); simp [go_sem, *] at k1_w_0_0 k1_w_0_1 f1_w_0)); (try have l1_w_0 : w.heap.size < w1.heap.size := by omega); (try (have kq := cellAt hb1 (w.heap.size + 1) (by go_size); have k1_w_1_0 := kq 0; have k1_w_1_1 := kq 1; have k1_w_1_2 := kq 2; clear kq; have f1_w_1 := frozAt hb1 (w.heap.size + 1) (by go_size); simp [go_sem, *] at k1_w_1_0 k1_w_1_1 k1_w_1_2 f1_w_1)); (try have l1_w_1 : w.heap.size + 1 < w1.heap.size := by omega); (try (have kq := cellAt hb1 (w.heap.size + 1 + 1) (by go_size); have k1_w_2_0 := kq 0; have k1_w_2_1 := kq 1; have k1_w_2_2 := kq 2; have k1_w_2_3 := kq 3; clear kq; have f1_w_2 := frozAt hb1 (w.heap.size + 1 + 1) (by go_size); simp [go_sem, *] at k1_w_2_0 k1_w_2_1 k1_w_2_2 k1_w_2_3 f1_w_2)); (try have l1_w_2 : w.heap.size + 1 + 1 < w1.heap.size := by omega)) | (go_at_call 59; (with_reducible refine ((T2 _).out).mono ?_); rintro e w' ⟨rfl, rfl⟩))
    refine bodyPost_ret (v := _) (by simp [results, Try.results38, go_sem, *]) rfl ⟨rfl, ?_⟩
    repeat' first | (with_reducible first | apply zRf | assumption | apply zDn | apply zDr | apply zAl | apply zSt | refine zVi (by assumption) ?_ ?_) | go_size
  · rw [e1]
    have hb := pq_bd h1
    have hk := inB_iff.1 h2
    obtain ⟨k, rfl⟩ : ∃ k : Nat, n = k := ⟨n.toNat, by omega⟩
    rw [Int.toNat_natCast]
    have T3 := fun W : World => Lib.hid (heightAt_any A B x y e k W hb.1 hb.2.1 hb.2.2.1 hb.2.2.2.1 hb.2.2.2.2 (by omega))
    rw [h1] at T1
    rw [h2] at T2
    clear h1 h2 e1 hb hk
    generalize htLo (dcV A B) k (ptSt A B x e k) = lo at *
    generalize htHi (dcV A B) k (ptSt A B x e k) = hi at *
    generalize htOk (ptSt A B x e k) = ok at *
    have T4 := fun W : World => Lib.hid (interval_any lo hi ok W)
    rw [ivV] at T4
    unfold iv5
    generalize ivN1 ok lo hi = i1 at *
    generalize ivD1 ok lo hi = i2 at *
    generalize ivN2 ok lo hi = i3 at *
    generalize ivD2 ok lo hi = i4 at *
    generalize (ok && validB lo hi) = i5 at *
    have tok1 : True := trivial
    have tok2 : True := trivial
    have tok3 : True := trivial
    go_enter Try.func38, Try.ntmps38
    go_wp2_with (first | (have _t := tok1; go_at_call 74; (with_reducible refine ((T1 _).out).mono ?_); rintro e w1 ⟨rfl, hb1⟩; clear tok1 _t; have hz1 := hb1.size; (try simp only [World.size_alloc, World.size_setCell, World.size_drew, World.size_drewN'] at hz1); (try (have kq := cellAt hb1 (w.heap.size) (by go_size); have k1_w_0_0 := kq 0; have k1_w_0_1 := kq 1; clear kq; have f1_w_0 := frozAt hb1 (w.heap.size) (by go_size); simp [go_sem, *] at k1_w_0_0 k1_w_0_1 f1_w_0)); (try have l1_w_0 : w.heap.size < w1.heap.size := by omega); (try (have kq := cellAt hb1 (w.heap.size + 1) (by go_size); have k1_w_1_0 := kq 0; have k1_w_1_1 := kq 1; have k1_w_1_2 := kq 2; clear kq; have f1_w_1 := frozAt hb1 (w.heap.size + 1) (by go_size); simp [go_sem, *] at k1_w_1_0 k1_w_1_1 k1_w_1_2 f1_w_1)); (try have l1_w_1 : w.heap.size + 1 < w1.heap.size := by omega); (try (have kq := cellAt hb1 (w.heap.size + 1 + 1) (by go_size); have k1_w_2_0 := kq 0; have k1_w_2_1 := kq 1; have k1_w_2_2 := kq 2; have k1_w_2_3 := kq 3; clear kq; have f1_w_2 := frozAt hb1 (w.heap.size + 1 + 1) (by go_size); simp [go_sem, *] at k1_w_2_0 k1_w_2_1 k1_w_2_2 k1_w_2_3 f1_w_2)); (try have l1_w_2 : w.heap.size + 1 + 1 < w1.heap.size := by omega)) | (go_at_call 59; (with_reducible refine ((T2 _).out).mono ?_); rintro e w' ⟨rfl, rfl⟩) | (have _t := tok2; go_at_call 77; (with_reducible refine ((T3 _).out).mono ?_); rintro e w2 ⟨rfl, hb2⟩; clear tok2 _t; have hz2 := hb2.size; (try simp only [World.size_alloc, World.size_setCell, World.size_drew, World.size_drewN'] at hz2); (try (have kq := cellAt hb2 (w.heap.size) (by go_size); have k2_w_0_0 := kq 0; have k2_w_0_1 := kq 1; clear kq; have f2_w_0 := frozAt hb2 (w.heap.size) (by go_size); simp [go_sem, *] at k2_w_0_0 k2_w_0_1 f2_w_0)); (try have l2_w_0 : w.heap.size < w2.heap.size := by omega); (try (have kq := cellAt hb2 (w.heap.size + 1) (by go_size); have k2_w_1_0 := kq 0; have k2_w_1_1 := kq 1; have k2_w_1_2 := kq 2; clear kq; have f2_w_1 := frozAt hb2 (w.heap.size + 1) (by go_size); simp [go_sem, *] at k2_w_1_0 k2_w_1_1 k2_w_1_2 f2_w_1)); (try have l2_w_1 : w.heap.size + 1 < w2.heap.size := by omega); (try (have kq := cellAt hb2 (w.heap.size + 1 + 1) (by go_size); have k2_w_2_0 := kq 0; have k2_w_2_1 := kq 1; have k2_w_2_2 := kq 2; have k2_w_2_3 := kq 3; clear kq; have f2_w_2 := frozAt hb2 (w.heap.size + 1 + 1) (by go_size); simp [go_sem, *] at k2_w_2_0 k2_w_2_1 k2_w_2_2 k2_w_2_3 f2_w_2)); (try have l2_w_2 : w.heap.size + 1 + 1 < w2.heap.size := by omega); (try clear k1_w_0_0 k1_w_0_1 f1_w_0); (try clear l1_w_0); (try clear k1_w_1_0 k1_w_1_1 k1_w_1_2 f1_w_1); (try clear l1_w_1); (try clear k1_w_2_0 k1_w_2_1 k1_w_2_2 k1_w_2_3 f1_w_2); (try clear l1_w_2)) | (have _t := tok3; go_at_call 79; (with_reducible refine ((T4 _).out).mono ?_); rintro e w3 ⟨rfl, hb3⟩; clear tok3 _t; have hz3 := hb3.size; (try simp only [World.size_alloc, World.size_setCell, World.size_drew, World.size_drewN'] at hz3); (try (have kq := cellAt hb3 (w.heap.size) (by go_size); have k3_w_0_0 := kq 0; have k3_w_0_1 := kq 1; clear kq; have f3_w_0 := frozAt hb3 (w.heap.size) (by go_size); simp [go_sem, *] at k3_w_0_0 k3_w_0_1 f3_w_0)); (try have l3_w_0 : w.heap.size < w3.heap.size := by omega); (try (have kq := cellAt hb3 (w.heap.size + 1) (by go_size); have k3_w_1_0 := kq 0; have k3_w_1_1 := kq 1; have k3_w_1_2 := kq 2; clear kq; have f3_w_1 := frozAt hb3 (w.heap.size + 1) (by go_size); simp [go_sem, *] at k3_w_1_0 k3_w_1_1 k3_w_1_2 f3_w_1)); (try have l3_w_1 : w.heap.size + 1 < w3.heap.size := by omega); (try (have kq := cellAt hb3 (w.heap.size + 1 + 1) (by go_size); have k3_w_2_0 := kq 0; have k3_w_2_1 := kq 1; have k3_w_2_2 := kq 2; have k3_w_2_3 := kq 3; clear kq; have f3_w_2 := frozAt hb3 (w.heap.size + 1 + 1) (by go_size); simp [go_sem, *] at k3_w_2_0 k3_w_2_1 k3_w_2_2 k3_w_2_3 f3_w_2)); (try have l3_w_2 : w.heap.size + 1 + 1 < w3.heap.size := by omega); (try (have kq := cellAt hb3 (w2.heap.size) (by go_size); have k3_w2_0_0 := kq 0; have k3_w2_0_1 := kq 1; clear kq; have f3_w2_0 := frozAt hb3 (w2.heap.size) (by go_size); simp [go_sem, *] at k3_w2_0_0 k3_w2_0_1 f3_w2_0)); (try have l3_w2_0 : w2.heap.size < w3.heap.size := by omega); (try clear k1_w_0_0 k1_w_0_1 f1_w_0); (try clear l1_w_0); (try clear k1_w_1_0 k1_w_1_1 k1_w_1_2 f1_w_1); (try clear l1_w_1); (try clear k1_w_2_0 k1_w_2_1 k1_w_2_2 k1_w_2_3 f1_w_2); (try clear l1_w_2); (try clear k2_w_0_0 k2_w_0_1 f2_w_0); (try clear l2_w_0); (try clear k2_w_1_0 k2_w_1_1 k2_w_1_2 f2_w_1); (try clear l2_w_1); (try clear k2_w_2_0 k2_w_2_1 k2_w_2_2 k2_w_2_3 f2_w_2); (try clear l2_w_2)))
    refine bodyPost_ret (v := _) (by simp [results, Try.results38, go_sem, *]) rfl ⟨rfl, ?_⟩
    repeat' first | (with_reducible first | apply zRf | assumption | apply zDn | apply zDr | apply zAl | apply zSt | refine zVi (by assumption) ?_ ?_) | go_size
theorem FnExactHeightAt_any (a0_0 a0_1 a1_0 a1_1 a1_2 a2_0 : Int) (w : World) : Calls Try.prog 8 #[.agg #[.int .i64 a0_0, .int .i64 a0_1], .agg #[.int .i64 a1_0, .int .i64 a1_1, .int .i64 a1_2], .int .i64 a2_0] w fun e w' => e = .returned (.bool true) ∧ Below w.heap.size w w' := by
  have CS := fun W : World => Lib.hid (sHeightAt_any a0_0 a0_1 a1_0 a1_1 a1_2 a2_0 W)
  have CI := fun W : World => Lib.hid (HeightAt_any a0_0 a0_1 a1_0 a1_1 a1_2 a2_0 W)
  generalize haV a0_0 a0_1 a1_0 a1_1 a1_2 a2_0 = r at *; obtain ⟨r1, r2, r3, r4, r5⟩ := r
  have tok1 : True := trivial
  have tok2 : True := trivial
  have tok3 : True := trivial
  go_enter Try.func8, Try.ntmps8
  go_wp2_with fail
  refine wp_drawn_fill (n := 9) 7 18 65 #[.int .i64 0, .int .i64 0, .int .i64 0, .int .i64 0] (by kernel_rfl) (by kernel_rfl) (by kernel_rfl) ⟨_, rfl, rfl, rfl, fun _ _ => by simp [go_sem]⟩ ⟨_, rfl, rfl, rfl, rfl⟩ (by kernel_rfl) (by kernel_rfl) (by kernel_rfl) ?_
  apply Exists.intro
  refine ⟨?_, ?_⟩
  · intro W hW
    try (have kx_w_0_0 := fun x => xcell hW (w.heap.size) (by go_size) x 0; simp [go_sem, *] at kx_w_0_0)
    try (have kx_w_0_1 := fun x => xcell hW (w.heap.size) (by go_size) x 1; simp [go_sem, *] at kx_w_0_1)
    try (have kx_w_1_0 := fun x => xcell hW (w.heap.size + 1) (by go_size) x 0; simp [go_sem, *] at kx_w_1_0)
    try (have kx_w_1_1 := fun x => xcell hW (w.heap.size + 1) (by go_size) x 1; simp [go_sem, *] at kx_w_1_1)
    try (have kx_w_1_2 := fun x => xcell hW (w.heap.size + 1) (by go_size) x 2; simp [go_sem, *] at kx_w_1_2)
    simp only [List.take_succ_cons, List.take_zero]
    repeat (go_big_quiet_step ((first | (go_at_call 15; exact draw_of _ (toCurve_any _ _ _)) | (go_at_call 28; exact draw_of _ (toPoint_any _ _ _ _)) | (go_at_call 37; exact draw_of _ ((CS _).out)))))
    exact wpQuiet_nil rfl
  refine ⟨_, rfl, rfl, by simp [Value.oneCell'], ?_⟩
  intro g1 w1 hb1 hg1 hk1
  try simp only [World.size_alloc, World.size_setCell, World.size_drew, World.size_drewN'] at hg1
  try have lg1_w_0 : w.heap.size < g1 := by omega
  try have lg1_w_1 : w.heap.size + 1 < g1 := by omega
  simp only [List.drop_succ_cons, List.drop_zero, Act.put, List.setIfInBounds_toArray, List.set_cons_succ, List.set_cons_zero]
  have hz1 := hb1.size
  (try simp only [World.size_alloc, World.size_setCell, World.size_drew, World.size_drewN'] at hz1)
  (try (have kq := cellAt hb1 (w.heap.size) (by go_size); have k1_w_0_0 := kq 0; have k1_w_0_1 := kq 1; clear kq; have f1_w_0 := frozAt hb1 (w.heap.size) (by go_size); simp [go_sem, *] at k1_w_0_0 k1_w_0_1 f1_w_0))
  (try have l1_w_0 : w.heap.size < w1.heap.size := by omega)
  (try (have kq := cellAt hb1 (w.heap.size + 1) (by go_size); have k1_w_1_0 := kq 0; have k1_w_1_1 := kq 1; have k1_w_1_2 := kq 2; clear kq; have f1_w_1 := frozAt hb1 (w.heap.size + 1) (by go_size); simp [go_sem, *] at k1_w_1_0 k1_w_1_1 k1_w_1_2 f1_w_1))
  (try have l1_w_1 : w.heap.size + 1 < w1.heap.size := by omega)
  have kg1 := blk_cell hk1
  have fg1 := blk_frozen hk1
  have lg1 := blk_lt hk1
  go_wp2_with fail
  refine wp_drawn_fill (n := 9) 9 27 65 #[.int .i64 0, .int .i64 0, .int .i64 0, .int .i64 0] (by kernel_rfl) (by kernel_rfl) (by kernel_rfl) ⟨_, rfl, rfl, rfl, fun _ _ => by simp [go_sem]⟩ ⟨_, rfl, rfl, rfl, rfl⟩ (by kernel_rfl) (by kernel_rfl) (by kernel_rfl) ?_
  apply Exists.intro
  refine ⟨?_, ?_⟩
  · intro W hW
    try (have kx_w_0_0 := fun x => xcell hW (w.heap.size) (by go_size) x 0; simp [go_sem, *] at kx_w_0_0)
    try (have kx_w_0_1 := fun x => xcell hW (w.heap.size) (by go_size) x 1; simp [go_sem, *] at kx_w_0_1)
    try (have kx_w_1_0 := fun x => xcell hW (w.heap.size + 1) (by go_size) x 0; simp [go_sem, *] at kx_w_1_0)
    try (have kx_w_1_1 := fun x => xcell hW (w.heap.size + 1) (by go_size) x 1; simp [go_sem, *] at kx_w_1_1)
    try (have kx_w_1_2 := fun x => xcell hW (w.heap.size + 1) (by go_size) x 2; simp [go_sem, *] at kx_w_1_2)
    try (have kx_g1_0 := fun x => xcell hW (g1) (by go_size) x 0; simp [go_sem, *] at kx_g1_0)
    try (have kx_g1_1 := fun x => xcell hW (g1) (by go_size) x 1; simp [go_sem, *] at kx_g1_1)
    try (have kx_g1_2 := fun x => xcell hW (g1) (by go_size) x 2; simp [go_sem, *] at kx_g1_2)
    try (have kx_g1_3 := fun x => xcell hW (g1) (by go_size) x 3; simp [go_sem, *] at kx_g1_3)
    simp only [List.take_succ_cons, List.take_zero]
    repeat (go_big_quiet_step ((first | (go_at_call 15; exact draw_of _ (toCurve_any _ _ _)) | (go_at_call 28; exact draw_of _ (toPoint_any _ _ _ _)) | (go_at_call 38; exact draw_of _ ((CI _).out)))))
    exact wpQuiet_nil rfl
  refine ⟨_, rfl, rfl, by simp [Value.oneCell'], ?_⟩
  intro g2 w2 hb2 hg2 hk2
  try simp only [World.size_alloc, World.size_setCell, World.size_drew, World.size_drewN'] at hg2
  try have lg2_w_0 : w.heap.size < g2 := by omega
  try have lg2_w_1 : w.heap.size + 1 < g2 := by omega
  try have lg2_g1 : g1 < g2 := by omega
  simp only [List.drop_succ_cons, List.drop_zero, Act.put, List.setIfInBounds_toArray, List.set_cons_succ, List.set_cons_zero]
  have hz2 := hb2.size
  (try simp only [World.size_alloc, World.size_setCell, World.size_drew, World.size_drewN'] at hz2)
  (try (have kq := cellAt hb2 (w.heap.size) (by go_size); have k2_w_0_0 := kq 0; have k2_w_0_1 := kq 1; clear kq; have f2_w_0 := frozAt hb2 (w.heap.size) (by go_size); simp [go_sem, *] at k2_w_0_0 k2_w_0_1 f2_w_0))
  (try have l2_w_0 : w.heap.size < w2.heap.size := by omega)
  (try (have kq := cellAt hb2 (w.heap.size + 1) (by go_size); have k2_w_1_0 := kq 0; have k2_w_1_1 := kq 1; have k2_w_1_2 := kq 2; clear kq; have f2_w_1 := frozAt hb2 (w.heap.size + 1) (by go_size); simp [go_sem, *] at k2_w_1_0 k2_w_1_1 k2_w_1_2 f2_w_1))
  (try have l2_w_1 : w.heap.size + 1 < w2.heap.size := by omega)
  (try (have kq := cellAt hb2 (g1) (by go_size); have k2_g1_0 := kq 0; have k2_g1_1 := kq 1; have k2_g1_2 := kq 2; have k2_g1_3 := kq 3; clear kq; have f2_g1 := frozAt hb2 (g1) (by go_size); simp [go_sem, *] at k2_g1_0 k2_g1_1 k2_g1_2 k2_g1_3 f2_g1))
  (try have l2_g1 : g1 < w2.heap.size := by omega)
  (try clear k1_w_0_0 k1_w_0_1 f1_w_0)
  (try clear l1_w_0)
  (try clear k1_w_1_0 k1_w_1_1 k1_w_1_2 f1_w_1)
  (try clear l1_w_1)
  have kg2 := blk_cell hk2
  have fg2 := blk_frozen hk2
  have lg2 := blk_lt hk2
  go_wp2_with (first | (have _t := tok3; go_at_call 39; refine (eqInterval_same _ _ _ _ _).mono ?_; rintro e w3 ⟨rfl, hb3⟩; clear tok3 _t; have hz3 := hb3.size; (try simp only [World.size_alloc, World.size_setCell, World.size_drew, World.size_drewN'] at hz3); (try (have kq := cellAt hb3 (w.heap.size) (by go_size); have k3_w_0_0 := kq 0; have k3_w_0_1 := kq 1; clear kq; have f3_w_0 := frozAt hb3 (w.heap.size) (by go_size); simp [go_sem, *] at k3_w_0_0 k3_w_0_1 f3_w_0)); (try have l3_w_0 : w.heap.size < w3.heap.size := by omega); (try (have kq := cellAt hb3 (w.heap.size + 1) (by go_size); have k3_w_1_0 := kq 0; have k3_w_1_1 := kq 1; have k3_w_1_2 := kq 2; clear kq; have f3_w_1 := frozAt hb3 (w.heap.size + 1) (by go_size); simp [go_sem, *] at k3_w_1_0 k3_w_1_1 k3_w_1_2 f3_w_1)); (try have l3_w_1 : w.heap.size + 1 < w3.heap.size := by omega); (try (have kq := cellAt hb3 (g1) (by go_size); have k3_g1_0 := kq 0; have k3_g1_1 := kq 1; have k3_g1_2 := kq 2; have k3_g1_3 := kq 3; clear kq; have f3_g1 := frozAt hb3 (g1) (by go_size); simp [go_sem, *] at k3_g1_0 k3_g1_1 k3_g1_2 k3_g1_3 f3_g1)); (try have l3_g1 : g1 < w3.heap.size := by omega); (try (have kq := cellAt hb3 (g2) (by go_size); have k3_g2_0 := kq 0; have k3_g2_1 := kq 1; have k3_g2_2 := kq 2; have k3_g2_3 := kq 3; clear kq; have f3_g2 := frozAt hb3 (g2) (by go_size); simp [go_sem, *] at k3_g2_0 k3_g2_1 k3_g2_2 k3_g2_3 f3_g2)); (try have l3_g2 : g2 < w3.heap.size := by omega); (try clear k1_w_0_0 k1_w_0_1 f1_w_0); (try clear l1_w_0); (try clear k1_w_1_0 k1_w_1_1 k1_w_1_2 f1_w_1); (try clear l1_w_1); (try clear k2_w_0_0 k2_w_0_1 f2_w_0); (try clear l2_w_0); (try clear k2_w_1_0 k2_w_1_1 k2_w_1_2 f2_w_1); (try clear l2_w_1); (try clear k2_g1_0 k2_g1_1 k2_g1_2 k2_g1_3 f2_g1); (try clear l2_g1)))
  go_ret
  refine ⟨rfl, ?_⟩
  repeat' first | (with_reducible first | apply zRf | assumption | apply zDn | apply zDr | apply zAl | apply zSt | refine zVi (by assumption) ?_ ?_) | go_size
end Go.Proofs.Ytfbegjiebahdcaa
