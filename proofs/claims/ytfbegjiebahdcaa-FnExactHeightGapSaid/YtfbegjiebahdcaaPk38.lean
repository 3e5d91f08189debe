/- Lemmas and contracts of functions. No condition. -/
import Derived.Test.YtfbegjiebahdcaaPk37
namespace Go.Proofs.Ytfbegjiebahdcaa
open Go.RowKit
set_option linter.unusedVariables false
set_option maxHeartbeats 1000000
set_option maxRecDepth 20000
set_option linter.unusedSimpArgs false
attribute [local go_sem] openAt openUpon
def gaV (A B x y e : Int) : Int × Int × Int × Int × Bool := if (pqB A B x y e && !decide (e = 0)) = true then iv5 (beOk (dcV A B) (ptSt A B x e)) (bLo (dcV A B) (ptSt A B x e) (bestN (ptSt A B x e)) - bitsZ x (e * e) * 4096) (bHi (dcV A B) (ptSt A B x e) (bestN (ptSt A B x e)) - (bitsZ x (e * e) - 1) * 4096) else ivZ
theorem gaV_cases (A B x y e : Int) : (pqB A B x y e = false ∧ gaV A B x y e = ivZ) ∨ (pqB A B x y e = true ∧ (e = 0 ∧ gaV A B x y e = ivZ ∨ e ≠ 0 ∧ gaV A B x y e = iv5 (beOk (dcV A B) (ptSt A B x e)) (bLo (dcV A B) (ptSt A B x e) (bestN (ptSt A B x e)) - bitsZ x (e * e) * 4096) (bHi (dcV A B) (ptSt A B x e) (bestN (ptSt A B x e)) - (bitsZ x (e * e) - 1) * 4096))) := by
  unfold gaV
  cases h1 : pqB A B x y e
  · left; exact ⟨rfl, by simp⟩
  · right; refine ⟨rfl, ?_⟩
    by_cases h2 : e = 0
    · left; exact ⟨h2, by simp [h2]⟩
    · right; exact ⟨h2, by simp [h2]⟩
theorem pt_lns {A B x y e : Int} (h : pqB A B x y e = true) (h0 : e ≠ 0) : ln x ≤ 80 ∧ ln (e * e) ≤ 80 ∧ 0 ≤ bitsZ x (e * e) ∧ bitsZ x (e * e) ≤ 1120 := by
  have hb := pq_bd h
  have := ptSt_ok (A := A) (B := B) hb.2.2.2.1 hb.2.2.2.2 0
  rw [ptSt_zero h0] at this
  have hr := raB_bd this
  exact ⟨hr.1, hr.2.1, bitsZ_bd ⟨hr.1, hr.2.1⟩⟩
theorem sHeightGap_any (A B x y e : Int) (w : World) : Calls Try.prog 46 #[.agg #[.int .i64 A, .int .i64 B], .agg #[.int .i64 x, .int .i64 y, .int .i64 e]] w fun r w' =>
    r = .returned (.tuple #[.agg #[.int .i64 (gaV A B x y e).1, .int .i64 (gaV A B x y e).2.1, .int .i64 (gaV A B x y e).2.2.1, .int .i64 (gaV A B x y e).2.2.2.1], .bool (gaV A B x y e).2.2.2.2]) ∧ Below w.heap.size w w' := by
  have T1 := fun W : World => Lib.hid (sIsP_any A B x y e W)
  rcases gaV_cases A B x y e with ⟨h1, e1⟩ | ⟨h1, ⟨h2, e1⟩ | ⟨h2, e1⟩⟩
  · rw [e1]
    have T3 := T1; have T4 := T1; have T5 := T1; have T6 := T1; have T7 := T1
    rw [h1] at T1
    unfold ivZ
    clear h1 e1
    have tok1 : True := trivial
    have tok2 : True := trivial
    have tok3 : True := trivial
    have tok4 : True := trivial
    have tok5 : True := trivial
    have tok6 : True := trivial
    go_enter Try.func46, Try.ntmps46
    go_wp2_with (first | (have _t := tok1; go_at_call 78; (with_reducible refine ((T1 _).out).mono ?_); rintro e w1 ⟨rfl, hb1⟩; clear tok1 _t; have hz1 := hb1.size; (try simp only [World.size_alloc, World.size_setCell, World.size_drew, World.size_drewN'] at hz1); (try (have kq := cellAt hb1 (w.heap.size) (by go_size); have k1_w_0_0 := kq 0; have k1_w_0_1 := kq 1; clear kq; have f1_w_0 := frozAt hb1 (w.heap.size) (by go_size); simp [go_sem, *] at k1_w_0_0 k1_w_0_1 f1_w_0)); (try have l1_w_0 : w.heap.size < w1.heap.size := by omega); (try (have kq := cellAt hb1 (w.heap.size + 1) (by go_size); have k1_w_1_0 := kq 0; have k1_w_1_1 := kq 1; have k1_w_1_2 := kq 2; clear kq; have f1_w_1 := frozAt hb1 (w.heap.size + 1) (by go_size); simp [go_sem, *] at k1_w_1_0 k1_w_1_1 k1_w_1_2 f1_w_1)); (try have l1_w_1 : w.heap.size + 1 < w1.heap.size := by omega); (try (have kq := cellAt hb1 (w.heap.size + 1 + 1) (by go_size); have k1_w_2_0 := kq 0; have k1_w_2_1 := kq 1; have k1_w_2_2 := kq 2; have k1_w_2_3 := kq 3; clear kq; have f1_w_2 := frozAt hb1 (w.heap.size + 1 + 1) (by go_size); simp [go_sem, *] at k1_w_2_0 k1_w_2_1 k1_w_2_2 k1_w_2_3 f1_w_2)); (try have l1_w_2 : w.heap.size + 1 + 1 < w1.heap.size := by omega)))
    refine bodyPost_ret (v := _) (by simp [results, Try.results46, go_sem, *]) rfl ⟨rfl, ?_⟩
    repeat' first | (with_reducible first | apply zRf | assumption | apply zDn | apply zDr | apply zAl | apply zSt | refine zVi (by assumption) ?_ ?_) | go_size
  · rw [e1]
    have T3 := T1; have T4 := T1; have T5 := T1; have T6 := T1; have T7 := T1
    rw [h1] at T1
    unfold ivZ
    clear h1 e1
    subst h2
    have tok1 : True := trivial
    have tok2 : True := trivial
    have tok3 : True := trivial
    have tok4 : True := trivial
    have tok5 : True := trivial
    have tok6 : True := trivial
    go_enter Try.func46, Try.ntmps46
    go_wp2_with (first | (have _t := tok1; go_at_call 78; (with_reducible refine ((T1 _).out).mono ?_); rintro e w1 ⟨rfl, hb1⟩; clear tok1 _t; have hz1 := hb1.size; (try simp only [World.size_alloc, World.size_setCell, World.size_drew, World.size_drewN'] at hz1); (try (have kq := cellAt hb1 (w.heap.size) (by go_size); have k1_w_0_0 := kq 0; have k1_w_0_1 := kq 1; clear kq; have f1_w_0 := frozAt hb1 (w.heap.size) (by go_size); simp [go_sem, *] at k1_w_0_0 k1_w_0_1 f1_w_0)); (try have l1_w_0 : w.heap.size < w1.heap.size := by omega); (try (have kq := cellAt hb1 (w.heap.size + 1) (by go_size); have k1_w_1_0 := kq 0; have k1_w_1_1 := kq 1; have k1_w_1_2 := kq 2; clear kq; have f1_w_1 := frozAt hb1 (w.heap.size + 1) (by go_size); simp [go_sem, *] at k1_w_1_0 k1_w_1_1 k1_w_1_2 f1_w_1)); (try have l1_w_1 : w.heap.size + 1 < w1.heap.size := by omega); (try (have kq := cellAt hb1 (w.heap.size + 1 + 1) (by go_size); have k1_w_2_0 := kq 0; have k1_w_2_1 := kq 1; have k1_w_2_2 := kq 2; have k1_w_2_3 := kq 3; clear kq; have f1_w_2 := frozAt hb1 (w.heap.size + 1 + 1) (by go_size); simp [go_sem, *] at k1_w_2_0 k1_w_2_1 k1_w_2_2 k1_w_2_3 f1_w_2)); (try have l1_w_2 : w.heap.size + 1 + 1 < w1.heap.size := by omega)))
    refine bodyPost_ret (v := _) (by simp [results, Try.results46, go_sem, *]) rfl ⟨rfl, ?_⟩
    repeat' first | (with_reducible first | apply zRf | assumption | apply zDn | apply zDr | apply zAl | apply zSt | refine zVi (by assumption) ?_ ?_) | go_size
  · rw [e1]
    have hb := pq_bd h1
    have hbb := best_bd h1
    have hll := pt_lns h1 h2
    have h2' : (e == 0) = false := by simpa using h2
    have ee := mul_bd (a := e) (b := e) (A := 20) (B := 20) (by omega) (by omega)
    have T3 := fun W : World => Lib.hid (chBest_any A B x y e W hb.1 hb.2.1 hb.2.2.1 hb.2.2.2.1 hb.2.2.2.2)
    have T4 := fun W : World => xdOf_any x (e * e) W (by omega) (by omega)
    have T5 := fun (W : World) (b : Bool) (a : Option Addr) (n c : Nat) (b2 : Bool) (a2 : Option Addr) (n2 c2 : Nat) (g1 : Wx W b a n c x) (g2 : Wx W b2 a2 n2 c2 (e * e)) => xdBits_any b b2 a a2 n c n2 c2 x (e * e) W g1 g2 hll.1 hll.2.1
    rw [h1] at T1
    have hl := be_lit (dcV A B) (ptSt A B x e)
    clear h1 h2 e1 hb
    generalize bLo (dcV A B) (ptSt A B x e) (bestN (ptSt A B x e)) = lo at *
    generalize bHi (dcV A B) (ptSt A B x e) (bestN (ptSt A B x e)) = hi at *
    generalize bestN (ptSt A B x e) = N at *
    generalize bitsZ x (e * e) = bz at *
    rcases hl with ⟨g1, hv, g2, g3, g4, g5, g6⟩ | ⟨g1, hv, g2, g3, g4, g5, g6⟩
    · rw [g1, g2, g3, g4, g5, g6] at T3
      rw [g1]
      have r1 := iv_read hv
      have T6 := fun W : World => Lib.hid (ivEnds_any (mkN lo 4096) (mkD lo 4096) (mkN hi 4096) (mkD hi 4096) W)
      rw [r1.2.1, r1.2.2] at T6
      have T7 := fun W : World => Lib.hid (ivMake_lit (lo - bz * 4096) (hi - (bz - 1) * 4096) W (by omega) (by omega))
      clear g1 g2 g3 g4 g5 g6 hv r1
      unfold iv5
      generalize ivN1 true (lo - bz * 4096) (hi - (bz - 1) * 4096) = i1 at *
      generalize ivD1 true (lo - bz * 4096) (hi - (bz - 1) * 4096) = i2 at *
      generalize ivN2 true (lo - bz * 4096) (hi - (bz - 1) * 4096) = i3 at *
      generalize ivD2 true (lo - bz * 4096) (hi - (bz - 1) * 4096) = i4 at *
      generalize (true && validB (lo - bz * 4096) (hi - (bz - 1) * 4096)) = i5 at *
      generalize mkN lo 4096 = j1 at *
      generalize mkD lo 4096 = j2 at *
      generalize mkN hi 4096 = j3 at *
      generalize mkD hi 4096 = j4 at *
      have tok1 : True := trivial
      have tok2 : True := trivial
      have tok3 : True := trivial
      have tok4 : True := trivial
      have tok5 : True := trivial
      have tok6 : True := trivial
      go_enter Try.func46, Try.ntmps46
      go_wp2_with (first | (have _t := tok1; go_at_call 78; (with_reducible refine ((T1 _).out).mono ?_); rintro e w1 ⟨rfl, hb1⟩; clear tok1 _t; have hz1 := hb1.size; (try simp only [World.size_alloc, World.size_setCell, World.size_drew, World.size_drewN'] at hz1); (try (have kq := cellAt hb1 (w.heap.size) (by go_size); have k1_w_0_0 := kq 0; have k1_w_0_1 := kq 1; clear kq; have f1_w_0 := frozAt hb1 (w.heap.size) (by go_size); simp [go_sem, *] at k1_w_0_0 k1_w_0_1 f1_w_0)); (try have l1_w_0 : w.heap.size < w1.heap.size := by omega); (try (have kq := cellAt hb1 (w.heap.size + 1) (by go_size); have k1_w_1_0 := kq 0; have k1_w_1_1 := kq 1; have k1_w_1_2 := kq 2; clear kq; have f1_w_1 := frozAt hb1 (w.heap.size + 1) (by go_size); simp [go_sem, *] at k1_w_1_0 k1_w_1_1 k1_w_1_2 f1_w_1)); (try have l1_w_1 : w.heap.size + 1 < w1.heap.size := by omega); (try (have kq := cellAt hb1 (w.heap.size + 1 + 1) (by go_size); have k1_w_2_0 := kq 0; have k1_w_2_1 := kq 1; have k1_w_2_2 := kq 2; have k1_w_2_3 := kq 3; clear kq; have f1_w_2 := frozAt hb1 (w.heap.size + 1 + 1) (by go_size); simp [go_sem, *] at k1_w_2_0 k1_w_2_1 k1_w_2_2 k1_w_2_3 f1_w_2)); (try have l1_w_2 : w.heap.size + 1 + 1 < w1.heap.size := by omega)) | (have _t := tok2; go_at_call 80; (with_reducible refine ((T3 _).out).mono ?_); rintro e w2 ⟨rfl, hb2⟩; clear tok2 _t; have hz2 := hb2.size; (try simp only [World.size_alloc, World.size_setCell, World.size_drew, World.size_drewN'] at hz2); (try (have kq := cellAt hb2 (w.heap.size) (by go_size); have k2_w_0_0 := kq 0; have k2_w_0_1 := kq 1; clear kq; have f2_w_0 := frozAt hb2 (w.heap.size) (by go_size); simp [go_sem, *] at k2_w_0_0 k2_w_0_1 f2_w_0)); (try have l2_w_0 : w.heap.size < w2.heap.size := by omega); (try (have kq := cellAt hb2 (w.heap.size + 1) (by go_size); have k2_w_1_0 := kq 0; have k2_w_1_1 := kq 1; have k2_w_1_2 := kq 2; clear kq; have f2_w_1 := frozAt hb2 (w.heap.size + 1) (by go_size); simp [go_sem, *] at k2_w_1_0 k2_w_1_1 k2_w_1_2 f2_w_1)); (try have l2_w_1 : w.heap.size + 1 < w2.heap.size := by omega); (try (have kq := cellAt hb2 (w.heap.size + 1 + 1) (by go_size); have k2_w_2_0 := kq 0; have k2_w_2_1 := kq 1; have k2_w_2_2 := kq 2; have k2_w_2_3 := kq 3; clear kq; have f2_w_2 := frozAt hb2 (w.heap.size + 1 + 1) (by go_size); simp [go_sem, *] at k2_w_2_0 k2_w_2_1 k2_w_2_2 k2_w_2_3 f2_w_2)); (try have l2_w_2 : w.heap.size + 1 + 1 < w2.heap.size := by omega); (try clear k1_w_0_0 k1_w_0_1 f1_w_0); (try clear l1_w_0); (try clear k1_w_1_0 k1_w_1_1 k1_w_1_2 f1_w_1); (try clear l1_w_1); (try clear k1_w_2_0 k1_w_2_1 k1_w_2_2 k1_w_2_3 f1_w_2); (try clear l1_w_2)) | (have _t := tok3; go_at_call 85; (with_reducible refine ((T4 _)).mono ?_); rintro e w3 ⟨b1, a1, n1, c1, b2, a2, n2, c2, rfl, g1, g2, hb3⟩; clear tok3 _t; have hz3 := hb3.size; (try simp only [World.size_alloc, World.size_setCell, World.size_drew, World.size_drewN'] at hz3); (try (have kq := cellAt hb3 (w.heap.size) (by go_size); have k3_w_0_0 := kq 0; have k3_w_0_1 := kq 1; clear kq; have f3_w_0 := frozAt hb3 (w.heap.size) (by go_size); simp [go_sem, *] at k3_w_0_0 k3_w_0_1 f3_w_0)); (try have l3_w_0 : w.heap.size < w3.heap.size := by omega); (try (have kq := cellAt hb3 (w.heap.size + 1) (by go_size); have k3_w_1_0 := kq 0; have k3_w_1_1 := kq 1; have k3_w_1_2 := kq 2; clear kq; have f3_w_1 := frozAt hb3 (w.heap.size + 1) (by go_size); simp [go_sem, *] at k3_w_1_0 k3_w_1_1 k3_w_1_2 f3_w_1)); (try have l3_w_1 : w.heap.size + 1 < w3.heap.size := by omega); (try (have kq := cellAt hb3 (w.heap.size + 1 + 1) (by go_size); have k3_w_2_0 := kq 0; have k3_w_2_1 := kq 1; have k3_w_2_2 := kq 2; have k3_w_2_3 := kq 3; clear kq; have f3_w_2 := frozAt hb3 (w.heap.size + 1 + 1) (by go_size); simp [go_sem, *] at k3_w_2_0 k3_w_2_1 k3_w_2_2 k3_w_2_3 f3_w_2)); (try have l3_w_2 : w.heap.size + 1 + 1 < w3.heap.size := by omega); (try (have kq := cellAt hb3 (w2.heap.size) (by go_size); have k3_w2_0_0 := kq 0; have k3_w2_0_1 := kq 1; have k3_w2_0_2 := kq 2; have k3_w2_0_3 := kq 3; clear kq; have f3_w2_0 := frozAt hb3 (w2.heap.size) (by go_size); simp [go_sem, *] at k3_w2_0_0 k3_w2_0_1 k3_w2_0_2 k3_w2_0_3 f3_w2_0)); (try have l3_w2_0 : w2.heap.size < w3.heap.size := by omega); (try clear k1_w_0_0 k1_w_0_1 f1_w_0); (try clear l1_w_0); (try clear k1_w_1_0 k1_w_1_1 k1_w_1_2 f1_w_1); (try clear l1_w_1); (try clear k1_w_2_0 k1_w_2_1 k1_w_2_2 k1_w_2_3 f1_w_2); (try clear l1_w_2); (try clear k2_w_0_0 k2_w_0_1 f2_w_0); (try clear l2_w_0); (try clear k2_w_1_0 k2_w_1_1 k2_w_1_2 f2_w_1); (try clear l2_w_1); (try clear k2_w_2_0 k2_w_2_1 k2_w_2_2 k2_w_2_3 f2_w_2); (try clear l2_w_2)) | (have _t := tok4; go_at_call 73; (with_reducible refine ((T5 _ _ _ _ _ _ _ _ _ g1 g2)).mono ?_); rintro e w4 ⟨rfl, hb4⟩; clear tok4 _t; have hz4 := hb4.size; (try simp only [World.size_alloc, World.size_setCell, World.size_drew, World.size_drewN'] at hz4); (try (have kq := cellAt hb4 (w.heap.size) (by go_size); have k4_w_0_0 := kq 0; have k4_w_0_1 := kq 1; clear kq; have f4_w_0 := frozAt hb4 (w.heap.size) (by go_size); simp [go_sem, *] at k4_w_0_0 k4_w_0_1 f4_w_0)); (try have l4_w_0 : w.heap.size < w4.heap.size := by omega); (try (have kq := cellAt hb4 (w.heap.size + 1) (by go_size); have k4_w_1_0 := kq 0; have k4_w_1_1 := kq 1; have k4_w_1_2 := kq 2; clear kq; have f4_w_1 := frozAt hb4 (w.heap.size + 1) (by go_size); simp [go_sem, *] at k4_w_1_0 k4_w_1_1 k4_w_1_2 f4_w_1)); (try have l4_w_1 : w.heap.size + 1 < w4.heap.size := by omega); (try (have kq := cellAt hb4 (w.heap.size + 1 + 1) (by go_size); have k4_w_2_0 := kq 0; have k4_w_2_1 := kq 1; have k4_w_2_2 := kq 2; have k4_w_2_3 := kq 3; clear kq; have f4_w_2 := frozAt hb4 (w.heap.size + 1 + 1) (by go_size); simp [go_sem, *] at k4_w_2_0 k4_w_2_1 k4_w_2_2 k4_w_2_3 f4_w_2)); (try have l4_w_2 : w.heap.size + 1 + 1 < w4.heap.size := by omega); (try (have kq := cellAt hb4 (w2.heap.size) (by go_size); have k4_w2_0_0 := kq 0; have k4_w2_0_1 := kq 1; have k4_w2_0_2 := kq 2; have k4_w2_0_3 := kq 3; clear kq; have f4_w2_0 := frozAt hb4 (w2.heap.size) (by go_size); simp [go_sem, *] at k4_w2_0_0 k4_w2_0_1 k4_w2_0_2 k4_w2_0_3 f4_w2_0)); (try have l4_w2_0 : w2.heap.size < w4.heap.size := by omega); (try clear k1_w_0_0 k1_w_0_1 f1_w_0); (try clear l1_w_0); (try clear k1_w_1_0 k1_w_1_1 k1_w_1_2 f1_w_1); (try clear l1_w_1); (try clear k1_w_2_0 k1_w_2_1 k1_w_2_2 k1_w_2_3 f1_w_2); (try clear l1_w_2); (try clear k2_w_0_0 k2_w_0_1 f2_w_0); (try clear l2_w_0); (try clear k2_w_1_0 k2_w_1_1 k2_w_1_2 f2_w_1); (try clear l2_w_1); (try clear k2_w_2_0 k2_w_2_1 k2_w_2_2 k2_w_2_3 f2_w_2); (try clear l2_w_2); (try clear k3_w_0_0 k3_w_0_1 f3_w_0); (try clear l3_w_0); (try clear k3_w_1_0 k3_w_1_1 k3_w_1_2 f3_w_1); (try clear l3_w_1); (try clear k3_w_2_0 k3_w_2_1 k3_w_2_2 k3_w_2_3 f3_w_2); (try clear l3_w_2); (try clear k3_w2_0_0 k3_w2_0_1 k3_w2_0_2 k3_w2_0_3 f3_w2_0); (try clear l3_w2_0)) | (have _t := tok5; go_at_call 83; (with_reducible refine ((T6 _).out).mono ?_); rintro e w5 ⟨rfl, hb5⟩; clear tok5 _t; have hz5 := hb5.size; (try simp only [World.size_alloc, World.size_setCell, World.size_drew, World.size_drewN'] at hz5); (try (have kq := cellAt hb5 (w.heap.size) (by go_size); have k5_w_0_0 := kq 0; have k5_w_0_1 := kq 1; clear kq; have f5_w_0 := frozAt hb5 (w.heap.size) (by go_size); simp [go_sem, *] at k5_w_0_0 k5_w_0_1 f5_w_0)); (try have l5_w_0 : w.heap.size < w5.heap.size := by omega); (try (have kq := cellAt hb5 (w.heap.size + 1) (by go_size); have k5_w_1_0 := kq 0; have k5_w_1_1 := kq 1; have k5_w_1_2 := kq 2; clear kq; have f5_w_1 := frozAt hb5 (w.heap.size + 1) (by go_size); simp [go_sem, *] at k5_w_1_0 k5_w_1_1 k5_w_1_2 f5_w_1)); (try have l5_w_1 : w.heap.size + 1 < w5.heap.size := by omega); (try (have kq := cellAt hb5 (w.heap.size + 1 + 1) (by go_size); have k5_w_2_0 := kq 0; have k5_w_2_1 := kq 1; have k5_w_2_2 := kq 2; have k5_w_2_3 := kq 3; clear kq; have f5_w_2 := frozAt hb5 (w.heap.size + 1 + 1) (by go_size); simp [go_sem, *] at k5_w_2_0 k5_w_2_1 k5_w_2_2 k5_w_2_3 f5_w_2)); (try have l5_w_2 : w.heap.size + 1 + 1 < w5.heap.size := by omega); (try (have kq := cellAt hb5 (w2.heap.size) (by go_size); have k5_w2_0_0 := kq 0; have k5_w2_0_1 := kq 1; have k5_w2_0_2 := kq 2; have k5_w2_0_3 := kq 3; clear kq; have f5_w2_0 := frozAt hb5 (w2.heap.size) (by go_size); simp [go_sem, *] at k5_w2_0_0 k5_w2_0_1 k5_w2_0_2 k5_w2_0_3 f5_w2_0)); (try have l5_w2_0 : w2.heap.size < w5.heap.size := by omega); (try clear k1_w_0_0 k1_w_0_1 f1_w_0); (try clear l1_w_0); (try clear k1_w_1_0 k1_w_1_1 k1_w_1_2 f1_w_1); (try clear l1_w_1); (try clear k1_w_2_0 k1_w_2_1 k1_w_2_2 k1_w_2_3 f1_w_2); (try clear l1_w_2); (try clear k2_w_0_0 k2_w_0_1 f2_w_0); (try clear l2_w_0); (try clear k2_w_1_0 k2_w_1_1 k2_w_1_2 f2_w_1); (try clear l2_w_1); (try clear k2_w_2_0 k2_w_2_1 k2_w_2_2 k2_w_2_3 f2_w_2); (try clear l2_w_2); (try clear k3_w_0_0 k3_w_0_1 f3_w_0); (try clear l3_w_0); (try clear k3_w_1_0 k3_w_1_1 k3_w_1_2 f3_w_1); (try clear l3_w_1); (try clear k3_w_2_0 k3_w_2_1 k3_w_2_2 k3_w_2_3 f3_w_2); (try clear l3_w_2); (try clear k3_w2_0_0 k3_w2_0_1 k3_w2_0_2 k3_w2_0_3 f3_w2_0); (try clear l3_w2_0); (try clear k4_w_0_0 k4_w_0_1 f4_w_0); (try clear l4_w_0); (try clear k4_w_1_0 k4_w_1_1 k4_w_1_2 f4_w_1); (try clear l4_w_1); (try clear k4_w_2_0 k4_w_2_1 k4_w_2_2 k4_w_2_3 f4_w_2); (try clear l4_w_2); (try clear k4_w2_0_0 k4_w2_0_1 k4_w2_0_2 k4_w2_0_3 f4_w2_0); (try clear l4_w2_0)) | (have _t := tok6; go_at_call 84; (with_reducible refine ((T7 _).out).mono ?_); rintro e w6 ⟨rfl, hb6⟩; clear tok6 _t; have hz6 := hb6.size; (try simp only [World.size_alloc, World.size_setCell, World.size_drew, World.size_drewN'] at hz6); (try (have kq := cellAt hb6 (w.heap.size) (by go_size); have k6_w_0_0 := kq 0; have k6_w_0_1 := kq 1; clear kq; have f6_w_0 := frozAt hb6 (w.heap.size) (by go_size); simp [go_sem, *] at k6_w_0_0 k6_w_0_1 f6_w_0)); (try have l6_w_0 : w.heap.size < w6.heap.size := by omega); (try (have kq := cellAt hb6 (w.heap.size + 1) (by go_size); have k6_w_1_0 := kq 0; have k6_w_1_1 := kq 1; have k6_w_1_2 := kq 2; clear kq; have f6_w_1 := frozAt hb6 (w.heap.size + 1) (by go_size); simp [go_sem, *] at k6_w_1_0 k6_w_1_1 k6_w_1_2 f6_w_1)); (try have l6_w_1 : w.heap.size + 1 < w6.heap.size := by omega); (try (have kq := cellAt hb6 (w.heap.size + 1 + 1) (by go_size); have k6_w_2_0 := kq 0; have k6_w_2_1 := kq 1; have k6_w_2_2 := kq 2; have k6_w_2_3 := kq 3; clear kq; have f6_w_2 := frozAt hb6 (w.heap.size + 1 + 1) (by go_size); simp [go_sem, *] at k6_w_2_0 k6_w_2_1 k6_w_2_2 k6_w_2_3 f6_w_2)); (try have l6_w_2 : w.heap.size + 1 + 1 < w6.heap.size := by omega); (try (have kq := cellAt hb6 (w2.heap.size) (by go_size); have k6_w2_0_0 := kq 0; have k6_w2_0_1 := kq 1; have k6_w2_0_2 := kq 2; have k6_w2_0_3 := kq 3; clear kq; have f6_w2_0 := frozAt hb6 (w2.heap.size) (by go_size); simp [go_sem, *] at k6_w2_0_0 k6_w2_0_1 k6_w2_0_2 k6_w2_0_3 f6_w2_0)); (try have l6_w2_0 : w2.heap.size < w6.heap.size := by omega); (try clear k2_w_0_0 k2_w_0_1 f2_w_0); (try clear l2_w_0); (try clear k2_w_1_0 k2_w_1_1 k2_w_1_2 f2_w_1); (try clear l2_w_1); (try clear k2_w_2_0 k2_w_2_1 k2_w_2_2 k2_w_2_3 f2_w_2); (try clear l2_w_2); (try clear k3_w_0_0 k3_w_0_1 f3_w_0); (try clear l3_w_0); (try clear k3_w_1_0 k3_w_1_1 k3_w_1_2 f3_w_1); (try clear l3_w_1); (try clear k3_w_2_0 k3_w_2_1 k3_w_2_2 k3_w_2_3 f3_w_2); (try clear l3_w_2); (try clear k3_w2_0_0 k3_w2_0_1 k3_w2_0_2 k3_w2_0_3 f3_w2_0); (try clear l3_w2_0); (try clear k4_w_0_0 k4_w_0_1 f4_w_0); (try clear l4_w_0); (try clear k4_w_1_0 k4_w_1_1 k4_w_1_2 f4_w_1); (try clear l4_w_1); (try clear k4_w_2_0 k4_w_2_1 k4_w_2_2 k4_w_2_3 f4_w_2); (try clear l4_w_2); (try clear k4_w2_0_0 k4_w2_0_1 k4_w2_0_2 k4_w2_0_3 f4_w2_0); (try clear l4_w2_0); (try clear k5_w_0_0 k5_w_0_1 f5_w_0); (try clear l5_w_0); (try clear k5_w_1_0 k5_w_1_1 k5_w_1_2 f5_w_1); (try clear l5_w_1); (try clear k5_w_2_0 k5_w_2_1 k5_w_2_2 k5_w_2_3 f5_w_2); (try clear l5_w_2); (try clear k5_w2_0_0 k5_w2_0_1 k5_w2_0_2 k5_w2_0_3 f5_w2_0); (try clear l5_w2_0)))
      refine bodyPost_ret (v := _) (by simp [results, Try.results46, go_sem, *]) rfl ⟨rfl, ?_⟩
      repeat' first | (with_reducible first | apply zRf | assumption | apply zDn | apply zDr | apply zAl | apply zSt | refine zVi (by assumption) ?_ ?_) | go_size
    · rw [g1, g2, g3, g4, g5, g6] at T3
      rw [g1, iv5_no (by simp)]
      have T6 := T1; have T7 := T1
      unfold ivZ
      clear g1 g2 g3 g4 g5 g6 hv
      have tok1 : True := trivial
      have tok2 : True := trivial
      have tok3 : True := trivial
      have tok4 : True := trivial
      have tok5 : True := trivial
      have tok6 : True := trivial
      go_enter Try.func46, Try.ntmps46
      go_wp2_with (first | (have _t := tok1; go_at_call 78; (with_reducible refine ((T1 _).out).mono ?_); rintro e w1 ⟨rfl, hb1⟩; clear tok1 _t; have hz1 := hb1.size; (try simp only [World.size_alloc, World.size_setCell, World.size_drew, World.size_drewN'] at hz1); (try (have kq := cellAt hb1 (w.heap.size) (by go_size); have k1_w_0_0 := kq 0; have k1_w_0_1 := kq 1; clear kq; have f1_w_0 := frozAt hb1 (w.heap.size) (by go_size); simp [go_sem, *] at k1_w_0_0 k1_w_0_1 f1_w_0)); (try have l1_w_0 : w.heap.size < w1.heap.size := by omega); (try (have kq := cellAt hb1 (w.heap.size + 1) (by go_size); have k1_w_1_0 := kq 0; have k1_w_1_1 := kq 1; have k1_w_1_2 := kq 2; clear kq; have f1_w_1 := frozAt hb1 (w.heap.size + 1) (by go_size); simp [go_sem, *] at k1_w_1_0 k1_w_1_1 k1_w_1_2 f1_w_1)); (try have l1_w_1 : w.heap.size + 1 < w1.heap.size := by omega); (try (have kq := cellAt hb1 (w.heap.size + 1 + 1) (by go_size); have k1_w_2_0 := kq 0; have k1_w_2_1 := kq 1; have k1_w_2_2 := kq 2; have k1_w_2_3 := kq 3; clear kq; have f1_w_2 := frozAt hb1 (w.heap.size + 1 + 1) (by go_size); simp [go_sem, *] at k1_w_2_0 k1_w_2_1 k1_w_2_2 k1_w_2_3 f1_w_2)); (try have l1_w_2 : w.heap.size + 1 + 1 < w1.heap.size := by omega)) | (have _t := tok2; go_at_call 80; (with_reducible refine ((T3 _).out).mono ?_); rintro e w2 ⟨rfl, hb2⟩; clear tok2 _t; have hz2 := hb2.size; (try simp only [World.size_alloc, World.size_setCell, World.size_drew, World.size_drewN'] at hz2); (try (have kq := cellAt hb2 (w.heap.size) (by go_size); have k2_w_0_0 := kq 0; have k2_w_0_1 := kq 1; clear kq; have f2_w_0 := frozAt hb2 (w.heap.size) (by go_size); simp [go_sem, *] at k2_w_0_0 k2_w_0_1 f2_w_0)); (try have l2_w_0 : w.heap.size < w2.heap.size := by omega); (try (have kq := cellAt hb2 (w.heap.size + 1) (by go_size); have k2_w_1_0 := kq 0; have k2_w_1_1 := kq 1; have k2_w_1_2 := kq 2; clear kq; have f2_w_1 := frozAt hb2 (w.heap.size + 1) (by go_size); simp [go_sem, *] at k2_w_1_0 k2_w_1_1 k2_w_1_2 f2_w_1)); (try have l2_w_1 : w.heap.size + 1 < w2.heap.size := by omega); (try (have kq := cellAt hb2 (w.heap.size + 1 + 1) (by go_size); have k2_w_2_0 := kq 0; have k2_w_2_1 := kq 1; have k2_w_2_2 := kq 2; have k2_w_2_3 := kq 3; clear kq; have f2_w_2 := frozAt hb2 (w.heap.size + 1 + 1) (by go_size); simp [go_sem, *] at k2_w_2_0 k2_w_2_1 k2_w_2_2 k2_w_2_3 f2_w_2)); (try have l2_w_2 : w.heap.size + 1 + 1 < w2.heap.size := by omega); (try clear k1_w_0_0 k1_w_0_1 f1_w_0); (try clear l1_w_0); (try clear k1_w_1_0 k1_w_1_1 k1_w_1_2 f1_w_1); (try clear l1_w_1); (try clear k1_w_2_0 k1_w_2_1 k1_w_2_2 k1_w_2_3 f1_w_2); (try clear l1_w_2)))
      refine bodyPost_ret (v := _) (by simp [results, Try.results46, go_sem, *]) rfl ⟨rfl, ?_⟩
      repeat' first | (with_reducible first | apply zRf | assumption | apply zDn | apply zDr | apply zAl | apply zSt | refine zVi (by assumption) ?_ ?_) | go_size
theorem HeightGap_any (A B x y e : Int) (w : World) : Calls Try.prog 47 #[.agg #[.int .i64 A, .int .i64 B], .agg #[.int .i64 x, .int .i64 y, .int .i64 e]] w fun r w' =>
    r = .returned (.tuple #[.agg #[.int .i64 (gaV A B x y e).1, .int .i64 (gaV A B x y e).2.1, .int .i64 (gaV A B x y e).2.2.1, .int .i64 (gaV A B x y e).2.2.2.1], .bool (gaV A B x y e).2.2.2.2]) ∧ Below w.heap.size w w' := by
  have T1 := fun W : World => Lib.hid (isP_any A B x y e W)
  rcases gaV_cases A B x y e with ⟨h1, e1⟩ | ⟨h1, ⟨h2, e1⟩ | ⟨h2, e1⟩⟩
  · rw [e1]
    have T3 := T1; have T4 := T1; have T5 := T1
    rw [h1] at T1
    unfold ivZ
    clear h1 e1
    have tok1 : True := trivial
    have tok2 : True := trivial
    have tok3 : True := trivial
    have tok4 : True := trivial
    go_enter Try.func47, Try.ntmps47
    go_wp2_with (first | (have _t := tok1; go_at_call 74; (with_reducible refine ((T1 _).out).mono ?_); rintro e w1 ⟨rfl, hb1⟩; clear tok1 _t; have hz1 := hb1.size; (try simp only [World.size_alloc, World.size_setCell, World.size_drew, World.size_drewN'] at hz1); (try (have kq := cellAt hb1 (w.heap.size) (by go_size); have k1_w_0_0 := kq 0; have k1_w_0_1 := kq 1; clear kq; have f1_w_0 := frozAt hb1 (w.heap.size) (by go_size); simp [go_sem, *] at k1_w_0_0 k1_w_0_1 f1_w_0)); (try have l1_w_0 : w.heap.size < w1.heap.size := by omega); (try (have kq := cellAt hb1 (w.heap.size + 1) (by go_size); have k1_w_1_0 := kq 0; have k1_w_1_1 := kq 1; have k1_w_1_2 := kq 2; clear kq; have f1_w_1 := frozAt hb1 (w.heap.size + 1) (by go_size); simp [go_sem, *] at k1_w_1_0 k1_w_1_1 k1_w_1_2 f1_w_1)); (try have l1_w_1 : w.heap.size + 1 < w1.heap.size := by omega); (try (have kq := cellAt hb1 (w.heap.size + 1 + 1) (by go_size); have k1_w_2_0 := kq 0; have k1_w_2_1 := kq 1; have k1_w_2_2 := kq 2; have k1_w_2_3 := kq 3; clear kq; have f1_w_2 := frozAt hb1 (w.heap.size + 1 + 1) (by go_size); simp [go_sem, *] at k1_w_2_0 k1_w_2_1 k1_w_2_2 k1_w_2_3 f1_w_2)); (try have l1_w_2 : w.heap.size + 1 + 1 < w1.heap.size := by omega)))
    refine bodyPost_ret (v := _) (by simp [results, Try.results47, go_sem, *]) rfl ⟨rfl, ?_⟩
    repeat' first | (with_reducible first | apply zRf | assumption | apply zDn | apply zDr | apply zAl | apply zSt | refine zVi (by assumption) ?_ ?_) | go_size
  · rw [e1]
    have T3 := T1; have T4 := T1; have T5 := T1
    rw [h1] at T1
    unfold ivZ
    clear h1 e1
    subst h2
    have tok1 : True := trivial
    have tok2 : True := trivial
    have tok3 : True := trivial
    have tok4 : True := trivial
    go_enter Try.func47, Try.ntmps47
    go_wp2_with (first | (have _t := tok1; go_at_call 74; (with_reducible refine ((T1 _).out).mono ?_); rintro e w1 ⟨rfl, hb1⟩; clear tok1 _t; have hz1 := hb1.size; (try simp only [World.size_alloc, World.size_setCell, World.size_drew, World.size_drewN'] at hz1); (try (have kq := cellAt hb1 (w.heap.size) (by go_size); have k1_w_0_0 := kq 0; have k1_w_0_1 := kq 1; clear kq; have f1_w_0 := frozAt hb1 (w.heap.size) (by go_size); simp [go_sem, *] at k1_w_0_0 k1_w_0_1 f1_w_0)); (try have l1_w_0 : w.heap.size < w1.heap.size := by omega); (try (have kq := cellAt hb1 (w.heap.size + 1) (by go_size); have k1_w_1_0 := kq 0; have k1_w_1_1 := kq 1; have k1_w_1_2 := kq 2; clear kq; have f1_w_1 := frozAt hb1 (w.heap.size + 1) (by go_size); simp [go_sem, *] at k1_w_1_0 k1_w_1_1 k1_w_1_2 f1_w_1)); (try have l1_w_1 : w.heap.size + 1 < w1.heap.size := by omega); (try (have kq := cellAt hb1 (w.heap.size + 1 + 1) (by go_size); have k1_w_2_0 := kq 0; have k1_w_2_1 := kq 1; have k1_w_2_2 := kq 2; have k1_w_2_3 := kq 3; clear kq; have f1_w_2 := frozAt hb1 (w.heap.size + 1 + 1) (by go_size); simp [go_sem, *] at k1_w_2_0 k1_w_2_1 k1_w_2_2 k1_w_2_3 f1_w_2)); (try have l1_w_2 : w.heap.size + 1 + 1 < w1.heap.size := by omega)))
    refine bodyPost_ret (v := _) (by simp [results, Try.results47, go_sem, *]) rfl ⟨rfl, ?_⟩
    repeat' first | (with_reducible first | apply zRf | assumption | apply zDn | apply zDr | apply zAl | apply zSt | refine zVi (by assumption) ?_ ?_) | go_size
  · rw [e1]
    have hb := pq_bd h1
    have hbb := best_bd h1
    have hll := pt_lns h1 h2
    have h2' : (e == 0) = false := by simpa using h2
    have T3 := fun W : World => Lib.hid (bestHeight_any A B x y e W hb.1 hb.2.1 hb.2.2.1 hb.2.2.2.1 hb.2.2.2.2)
    have T4 := fun W : World => Lib.hid (bitsAt_any A B x y e 0 W hb.1 hb.2.1 hb.2.2.1 hb.2.2.2.1 hb.2.2.2.2 (by omega))
    rw [ptSt_zero h2, show bitsOf (.at x (e * e)) = bitsZ x (e * e) from rfl, show infB (.at x (e * e)) = false from rfl, show htOk (.at x (e * e)) = true from rfl, show (((0 : Nat) : Int)) = 0 from rfl] at T4
    rw [h1] at T1
    clear h1 h2 e1 hb
    generalize bLo (dcV A B) (ptSt A B x e) (bestN (ptSt A B x e)) = lo at *
    generalize bHi (dcV A B) (ptSt A B x e) (bestN (ptSt A B x e)) = hi at *
    generalize bestN (ptSt A B x e) = N at *
    generalize beOk (dcV A B) (ptSt A B x e) = ok at *
    generalize bitsZ x (e * e) = bz at *
    have T5 := fun W : World => Lib.hid (interval_lit (lo - bz * 4096) (hi - (bz - 1) * 4096) ok W)
    unfold iv5
    generalize ivN1 ok (lo - bz * 4096) (hi - (bz - 1) * 4096) = i1 at *
    generalize ivD1 ok (lo - bz * 4096) (hi - (bz - 1) * 4096) = i2 at *
    generalize ivN2 ok (lo - bz * 4096) (hi - (bz - 1) * 4096) = i3 at *
    generalize ivD2 ok (lo - bz * 4096) (hi - (bz - 1) * 4096) = i4 at *
    generalize (ok && validB (lo - bz * 4096) (hi - (bz - 1) * 4096)) = i5 at *
    have tok1 : True := trivial
    have tok2 : True := trivial
    have tok3 : True := trivial
    have tok4 : True := trivial
    go_enter Try.func47, Try.ntmps47
    go_wp2_with (first | (have _t := tok1; go_at_call 74; (with_reducible refine ((T1 _).out).mono ?_); rintro e w1 ⟨rfl, hb1⟩; clear tok1 _t; have hz1 := hb1.size; (try simp only [World.size_alloc, World.size_setCell, World.size_drew, World.size_drewN'] at hz1); (try (have kq := cellAt hb1 (w.heap.size) (by go_size); have k1_w_0_0 := kq 0; have k1_w_0_1 := kq 1; clear kq; have f1_w_0 := frozAt hb1 (w.heap.size) (by go_size); simp [go_sem, *] at k1_w_0_0 k1_w_0_1 f1_w_0)); (try have l1_w_0 : w.heap.size < w1.heap.size := by omega); (try (have kq := cellAt hb1 (w.heap.size + 1) (by go_size); have k1_w_1_0 := kq 0; have k1_w_1_1 := kq 1; have k1_w_1_2 := kq 2; clear kq; have f1_w_1 := frozAt hb1 (w.heap.size + 1) (by go_size); simp [go_sem, *] at k1_w_1_0 k1_w_1_1 k1_w_1_2 f1_w_1)); (try have l1_w_1 : w.heap.size + 1 < w1.heap.size := by omega); (try (have kq := cellAt hb1 (w.heap.size + 1 + 1) (by go_size); have k1_w_2_0 := kq 0; have k1_w_2_1 := kq 1; have k1_w_2_2 := kq 2; have k1_w_2_3 := kq 3; clear kq; have f1_w_2 := frozAt hb1 (w.heap.size + 1 + 1) (by go_size); simp [go_sem, *] at k1_w_2_0 k1_w_2_1 k1_w_2_2 k1_w_2_3 f1_w_2)); (try have l1_w_2 : w.heap.size + 1 + 1 < w1.heap.size := by omega)) | (have _t := tok2; go_at_call 82; (with_reducible refine ((T3 _).out).mono ?_); rintro e w2 ⟨rfl, hb2⟩; clear tok2 _t; have hz2 := hb2.size; (try simp only [World.size_alloc, World.size_setCell, World.size_drew, World.size_drewN'] at hz2); (try (have kq := cellAt hb2 (w.heap.size) (by go_size); have k2_w_0_0 := kq 0; have k2_w_0_1 := kq 1; clear kq; have f2_w_0 := frozAt hb2 (w.heap.size) (by go_size); simp [go_sem, *] at k2_w_0_0 k2_w_0_1 f2_w_0)); (try have l2_w_0 : w.heap.size < w2.heap.size := by omega); (try (have kq := cellAt hb2 (w.heap.size + 1) (by go_size); have k2_w_1_0 := kq 0; have k2_w_1_1 := kq 1; have k2_w_1_2 := kq 2; clear kq; have f2_w_1 := frozAt hb2 (w.heap.size + 1) (by go_size); simp [go_sem, *] at k2_w_1_0 k2_w_1_1 k2_w_1_2 f2_w_1)); (try have l2_w_1 : w.heap.size + 1 < w2.heap.size := by omega); (try (have kq := cellAt hb2 (w.heap.size + 1 + 1) (by go_size); have k2_w_2_0 := kq 0; have k2_w_2_1 := kq 1; have k2_w_2_2 := kq 2; have k2_w_2_3 := kq 3; clear kq; have f2_w_2 := frozAt hb2 (w.heap.size + 1 + 1) (by go_size); simp [go_sem, *] at k2_w_2_0 k2_w_2_1 k2_w_2_2 k2_w_2_3 f2_w_2)); (try have l2_w_2 : w.heap.size + 1 + 1 < w2.heap.size := by omega); (try clear k1_w_0_0 k1_w_0_1 f1_w_0); (try clear l1_w_0); (try clear k1_w_1_0 k1_w_1_1 k1_w_1_2 f1_w_1); (try clear l1_w_1); (try clear k1_w_2_0 k1_w_2_1 k1_w_2_2 k1_w_2_3 f1_w_2); (try clear l1_w_2)) | (have _t := tok3; go_at_call 75; (with_reducible refine ((T4 _).out).mono ?_); rintro e w3 ⟨rfl, hb3⟩; clear tok3 _t; have hz3 := hb3.size; (try simp only [World.size_alloc, World.size_setCell, World.size_drew, World.size_drewN'] at hz3); (try (have kq := cellAt hb3 (w.heap.size) (by go_size); have k3_w_0_0 := kq 0; have k3_w_0_1 := kq 1; clear kq; have f3_w_0 := frozAt hb3 (w.heap.size) (by go_size); simp [go_sem, *] at k3_w_0_0 k3_w_0_1 f3_w_0)); (try have l3_w_0 : w.heap.size < w3.heap.size := by omega); (try (have kq := cellAt hb3 (w.heap.size + 1) (by go_size); have k3_w_1_0 := kq 0; have k3_w_1_1 := kq 1; have k3_w_1_2 := kq 2; clear kq; have f3_w_1 := frozAt hb3 (w.heap.size + 1) (by go_size); simp [go_sem, *] at k3_w_1_0 k3_w_1_1 k3_w_1_2 f3_w_1)); (try have l3_w_1 : w.heap.size + 1 < w3.heap.size := by omega); (try (have kq := cellAt hb3 (w.heap.size + 1 + 1) (by go_size); have k3_w_2_0 := kq 0; have k3_w_2_1 := kq 1; have k3_w_2_2 := kq 2; have k3_w_2_3 := kq 3; clear kq; have f3_w_2 := frozAt hb3 (w.heap.size + 1 + 1) (by go_size); simp [go_sem, *] at k3_w_2_0 k3_w_2_1 k3_w_2_2 k3_w_2_3 f3_w_2)); (try have l3_w_2 : w.heap.size + 1 + 1 < w3.heap.size := by omega); (try (have kq := cellAt hb3 (w2.heap.size) (by go_size); have k3_w2_0_0 := kq 0; have k3_w2_0_1 := kq 1; clear kq; have f3_w2_0 := frozAt hb3 (w2.heap.size) (by go_size); simp [go_sem, *] at k3_w2_0_0 k3_w2_0_1 f3_w2_0)); (try have l3_w2_0 : w2.heap.size < w3.heap.size := by omega); (try clear k1_w_0_0 k1_w_0_1 f1_w_0); (try clear l1_w_0); (try clear k1_w_1_0 k1_w_1_1 k1_w_1_2 f1_w_1); (try clear l1_w_1); (try clear k1_w_2_0 k1_w_2_1 k1_w_2_2 k1_w_2_3 f1_w_2); (try clear l1_w_2); (try clear k2_w_0_0 k2_w_0_1 f2_w_0); (try clear l2_w_0); (try clear k2_w_1_0 k2_w_1_1 k2_w_1_2 f2_w_1); (try clear l2_w_1); (try clear k2_w_2_0 k2_w_2_1 k2_w_2_2 k2_w_2_3 f2_w_2); (try clear l2_w_2)) | (have _t := tok4; go_at_call 79; (with_reducible refine ((T5 _).out).mono ?_); rintro e w4 ⟨rfl, hb4⟩; clear tok4 _t; have hz4 := hb4.size; (try simp only [World.size_alloc, World.size_setCell, World.size_drew, World.size_drewN'] at hz4); (try (have kq := cellAt hb4 (w.heap.size) (by go_size); have k4_w_0_0 := kq 0; have k4_w_0_1 := kq 1; clear kq; have f4_w_0 := frozAt hb4 (w.heap.size) (by go_size); simp [go_sem, *] at k4_w_0_0 k4_w_0_1 f4_w_0)); (try have l4_w_0 : w.heap.size < w4.heap.size := by omega); (try (have kq := cellAt hb4 (w.heap.size + 1) (by go_size); have k4_w_1_0 := kq 0; have k4_w_1_1 := kq 1; have k4_w_1_2 := kq 2; clear kq; have f4_w_1 := frozAt hb4 (w.heap.size + 1) (by go_size); simp [go_sem, *] at k4_w_1_0 k4_w_1_1 k4_w_1_2 f4_w_1)); (try have l4_w_1 : w.heap.size + 1 < w4.heap.size := by omega); (try (have kq := cellAt hb4 (w.heap.size + 1 + 1) (by go_size); have k4_w_2_0 := kq 0; have k4_w_2_1 := kq 1; have k4_w_2_2 := kq 2; have k4_w_2_3 := kq 3; clear kq; have f4_w_2 := frozAt hb4 (w.heap.size + 1 + 1) (by go_size); simp [go_sem, *] at k4_w_2_0 k4_w_2_1 k4_w_2_2 k4_w_2_3 f4_w_2)); (try have l4_w_2 : w.heap.size + 1 + 1 < w4.heap.size := by omega); (try (have kq := cellAt hb4 (w2.heap.size) (by go_size); have k4_w2_0_0 := kq 0; have k4_w2_0_1 := kq 1; clear kq; have f4_w2_0 := frozAt hb4 (w2.heap.size) (by go_size); simp [go_sem, *] at k4_w2_0_0 k4_w2_0_1 f4_w2_0)); (try have l4_w2_0 : w2.heap.size < w4.heap.size := by omega); (try clear k1_w_0_0 k1_w_0_1 f1_w_0); (try clear l1_w_0); (try clear k1_w_1_0 k1_w_1_1 k1_w_1_2 f1_w_1); (try clear l1_w_1); (try clear k1_w_2_0 k1_w_2_1 k1_w_2_2 k1_w_2_3 f1_w_2); (try clear l1_w_2); (try clear k2_w_0_0 k2_w_0_1 f2_w_0); (try clear l2_w_0); (try clear k2_w_1_0 k2_w_1_1 k2_w_1_2 f2_w_1); (try clear l2_w_1); (try clear k2_w_2_0 k2_w_2_1 k2_w_2_2 k2_w_2_3 f2_w_2); (try clear l2_w_2); (try clear k3_w_0_0 k3_w_0_1 f3_w_0); (try clear l3_w_0); (try clear k3_w_1_0 k3_w_1_1 k3_w_1_2 f3_w_1); (try clear l3_w_1); (try clear k3_w_2_0 k3_w_2_1 k3_w_2_2 k3_w_2_3 f3_w_2); (try clear l3_w_2); (try clear k3_w2_0_0 k3_w2_0_1 f3_w2_0); (try clear l3_w2_0)))
    refine bodyPost_ret (v := _) (by simp [results, Try.results47, go_sem, *]) rfl ⟨rfl, ?_⟩
    repeat' first | (with_reducible first | apply zRf | assumption | apply zDn | apply zDr | apply zAl | apply zSt | refine zVi (by assumption) ?_ ?_) | go_size
theorem FnExactHeightGap_any (a0_0 a0_1 a1_0 a1_1 a1_2 : Int) (w : World) : Calls Try.prog 12 #[.agg #[.int .i64 a0_0, .int .i64 a0_1], .agg #[.int .i64 a1_0, .int .i64 a1_1, .int .i64 a1_2]] w fun e w' => e = .returned (.bool true) ∧ Below w.heap.size w w' := by
  have CS := fun W : World => Lib.hid (sHeightGap_any a0_0 a0_1 a1_0 a1_1 a1_2 W)
  have CI := fun W : World => Lib.hid (HeightGap_any a0_0 a0_1 a1_0 a1_1 a1_2 W)
  generalize gaV a0_0 a0_1 a1_0 a1_1 a1_2 = r at *; obtain ⟨r1, r2, r3, r4, r5⟩ := r
  have tok1 : True := trivial
  have tok2 : True := trivial
  have tok3 : True := trivial
  go_enter Try.func12, Try.ntmps12
  go_wp2_with fail
  refine wp_drawn_fill (n := 8) 5 15 65 #[.int .i64 0, .int .i64 0, .int .i64 0, .int .i64 0] (by kernel_rfl) (by kernel_rfl) (by kernel_rfl) ⟨_, rfl, rfl, rfl, fun _ _ => by simp [go_sem]⟩ ⟨_, rfl, rfl, rfl, rfl⟩ (by kernel_rfl) (by kernel_rfl) (by kernel_rfl) ?_
  apply Exists.intro
  refine ⟨?_, ?_⟩
  · intro W hW
    try (have kx_w_0_0 := fun x => xcell hW (w.heap.size) (by go_size) x 0; simp [go_sem, *] at kx_w_0_0)
    try (have kx_w_0_1 := fun x => xcell hW (w.heap.size) (by go_size) x 1; simp [go_sem, *] at kx_w_0_1)
    try (have kx_w_1_0 := fun x => xcell hW (w.heap.size + 1) (by go_size) x 0; simp [go_sem, *] at kx_w_1_0)
    try (have kx_w_1_1 := fun x => xcell hW (w.heap.size + 1) (by go_size) x 1; simp [go_sem, *] at kx_w_1_1)
    try (have kx_w_1_2 := fun x => xcell hW (w.heap.size + 1) (by go_size) x 2; simp [go_sem, *] at kx_w_1_2)
    simp only [List.take_succ_cons, List.take_zero]
    repeat (go_big_quiet_step ((first | (go_at_call 15; exact draw_of _ (toCurve_any _ _ _)) | (go_at_call 28; exact draw_of _ (toPoint_any _ _ _ _)) | (go_at_call 46; exact draw_of _ ((CS _).out)))))
    exact wpQuiet_nil rfl
  refine ⟨_, rfl, rfl, by simp [Value.oneCell'], ?_⟩
  intro g1 w1 hb1 hg1 hk1
  try simp only [World.size_alloc, World.size_setCell, World.size_drew, World.size_drewN'] at hg1
  try have lg1_w_0 : w.heap.size < g1 := by omega
  try have lg1_w_1 : w.heap.size + 1 < g1 := by omega
  simp only [List.drop_succ_cons, List.drop_zero, Act.put, List.setIfInBounds_toArray, List.set_cons_succ, List.set_cons_zero]
  have hz1 := hb1.size
  (try simp only [World.size_alloc, World.size_setCell, World.size_drew, World.size_drewN'] at hz1)
  (try (have kq := cellAt hb1 (w.heap.size) (by go_size); have k1_w_0_0 := kq 0; have k1_w_0_1 := kq 1; clear kq; have f1_w_0 := frozAt hb1 (w.heap.size) (by go_size); simp [go_sem, *] at k1_w_0_0 k1_w_0_1 f1_w_0))
  (try have l1_w_0 : w.heap.size < w1.heap.size := by omega)
  (try (have kq := cellAt hb1 (w.heap.size + 1) (by go_size); have k1_w_1_0 := kq 0; have k1_w_1_1 := kq 1; have k1_w_1_2 := kq 2; clear kq; have f1_w_1 := frozAt hb1 (w.heap.size + 1) (by go_size); simp [go_sem, *] at k1_w_1_0 k1_w_1_1 k1_w_1_2 f1_w_1))
  (try have l1_w_1 : w.heap.size + 1 < w1.heap.size := by omega)
  have kg1 := blk_cell hk1
  have fg1 := blk_frozen hk1
  have lg1 := blk_lt hk1
  go_wp2_with fail
  refine wp_drawn_fill (n := 8) 7 23 65 #[.int .i64 0, .int .i64 0, .int .i64 0, .int .i64 0] (by kernel_rfl) (by kernel_rfl) (by kernel_rfl) ⟨_, rfl, rfl, rfl, fun _ _ => by simp [go_sem]⟩ ⟨_, rfl, rfl, rfl, rfl⟩ (by kernel_rfl) (by kernel_rfl) (by kernel_rfl) ?_
  apply Exists.intro
  refine ⟨?_, ?_⟩
  · intro W hW
    try (have kx_w_0_0 := fun x => xcell hW (w.heap.size) (by go_size) x 0; simp [go_sem, *] at kx_w_0_0)
    try (have kx_w_0_1 := fun x => xcell hW (w.heap.size) (by go_size) x 1; simp [go_sem, *] at kx_w_0_1)
    try (have kx_w_1_0 := fun x => xcell hW (w.heap.size + 1) (by go_size) x 0; simp [go_sem, *] at kx_w_1_0)
    try (have kx_w_1_1 := fun x => xcell hW (w.heap.size + 1) (by go_size) x 1; simp [go_sem, *] at kx_w_1_1)
    try (have kx_w_1_2 := fun x => xcell hW (w.heap.size + 1) (by go_size) x 2; simp [go_sem, *] at kx_w_1_2)
    try (have kx_g1_0 := fun x => xcell hW (g1) (by go_size) x 0; simp [go_sem, *] at kx_g1_0)
    try (have kx_g1_1 := fun x => xcell hW (g1) (by go_size) x 1; simp [go_sem, *] at kx_g1_1)
    try (have kx_g1_2 := fun x => xcell hW (g1) (by go_size) x 2; simp [go_sem, *] at kx_g1_2)
    try (have kx_g1_3 := fun x => xcell hW (g1) (by go_size) x 3; simp [go_sem, *] at kx_g1_3)
    simp only [List.take_succ_cons, List.take_zero]
    repeat (go_big_quiet_step ((first | (go_at_call 15; exact draw_of _ (toCurve_any _ _ _)) | (go_at_call 28; exact draw_of _ (toPoint_any _ _ _ _)) | (go_at_call 47; exact draw_of _ ((CI _).out)))))
    exact wpQuiet_nil rfl
  refine ⟨_, rfl, rfl, by simp [Value.oneCell'], ?_⟩
  intro g2 w2 hb2 hg2 hk2
  try simp only [World.size_alloc, World.size_setCell, World.size_drew, World.size_drewN'] at hg2
  try have lg2_w_0 : w.heap.size < g2 := by omega
  try have lg2_w_1 : w.heap.size + 1 < g2 := by omega
  try have lg2_g1 : g1 < g2 := by omega
  simp only [List.drop_succ_cons, List.drop_zero, Act.put, List.setIfInBounds_toArray, List.set_cons_succ, List.set_cons_zero]
  have hz2 := hb2.size
  (try simp only [World.size_alloc, World.size_setCell, World.size_drew, World.size_drewN'] at hz2)
  (try (have kq := cellAt hb2 (w.heap.size) (by go_size); have k2_w_0_0 := kq 0; have k2_w_0_1 := kq 1; clear kq; have f2_w_0 := frozAt hb2 (w.heap.size) (by go_size); simp [go_sem, *] at k2_w_0_0 k2_w_0_1 f2_w_0))
  (try have l2_w_0 : w.heap.size < w2.heap.size := by omega)
  (try (have kq := cellAt hb2 (w.heap.size + 1) (by go_size); have k2_w_1_0 := kq 0; have k2_w_1_1 := kq 1; have k2_w_1_2 := kq 2; clear kq; have f2_w_1 := frozAt hb2 (w.heap.size + 1) (by go_size); simp [go_sem, *] at k2_w_1_0 k2_w_1_1 k2_w_1_2 f2_w_1))
  (try have l2_w_1 : w.heap.size + 1 < w2.heap.size := by omega)
  (try (have kq := cellAt hb2 (g1) (by go_size); have k2_g1_0 := kq 0; have k2_g1_1 := kq 1; have k2_g1_2 := kq 2; have k2_g1_3 := kq 3; clear kq; have f2_g1 := frozAt hb2 (g1) (by go_size); simp [go_sem, *] at k2_g1_0 k2_g1_1 k2_g1_2 k2_g1_3 f2_g1))
  (try have l2_g1 : g1 < w2.heap.size := by omega)
  (try clear k1_w_0_0 k1_w_0_1 f1_w_0)
  (try clear l1_w_0)
  (try clear k1_w_1_0 k1_w_1_1 k1_w_1_2 f1_w_1)
  (try clear l1_w_1)
  have kg2 := blk_cell hk2
  have fg2 := blk_frozen hk2
  have lg2 := blk_lt hk2
  go_wp2_with (first | (have _t := tok3; go_at_call 39; refine (eqInterval_same _ _ _ _ _).mono ?_; rintro e w3 ⟨rfl, hb3⟩; clear tok3 _t; have hz3 := hb3.size; (try simp only [World.size_alloc, World.size_setCell, World.size_drew, World.size_drewN'] at hz3); (try (have kq := cellAt hb3 (w.heap.size) (by go_size); have k3_w_0_0 := kq 0; have k3_w_0_1 := kq 1; clear kq; have f3_w_0 := frozAt hb3 (w.heap.size) (by go_size); simp [go_sem, *] at k3_w_0_0 k3_w_0_1 f3_w_0)); (try have l3_w_0 : w.heap.size < w3.heap.size := by omega); (try (have kq := cellAt hb3 (w.heap.size + 1) (by go_size); have k3_w_1_0 := kq 0; have k3_w_1_1 := kq 1; have k3_w_1_2 := kq 2; clear kq; have f3_w_1 := frozAt hb3 (w.heap.size + 1) (by go_size); simp [go_sem, *] at k3_w_1_0 k3_w_1_1 k3_w_1_2 f3_w_1)); (try have l3_w_1 : w.heap.size + 1 < w3.heap.size := by omega); (try (have kq := cellAt hb3 (g1) (by go_size); have k3_g1_0 := kq 0; have k3_g1_1 := kq 1; have k3_g1_2 := kq 2; have k3_g1_3 := kq 3; clear kq; have f3_g1 := frozAt hb3 (g1) (by go_size); simp [go_sem, *] at k3_g1_0 k3_g1_1 k3_g1_2 k3_g1_3 f3_g1)); (try have l3_g1 : g1 < w3.heap.size := by omega); (try (have kq := cellAt hb3 (g2) (by go_size); have k3_g2_0 := kq 0; have k3_g2_1 := kq 1; have k3_g2_2 := kq 2; have k3_g2_3 := kq 3; clear kq; have f3_g2 := frozAt hb3 (g2) (by go_size); simp [go_sem, *] at k3_g2_0 k3_g2_1 k3_g2_2 k3_g2_3 f3_g2)); (try have l3_g2 : g2 < w3.heap.size := by omega); (try clear k1_w_0_0 k1_w_0_1 f1_w_0); (try clear l1_w_0); (try clear k1_w_1_0 k1_w_1_1 k1_w_1_2 f1_w_1); (try clear l1_w_1); (try clear k2_w_0_0 k2_w_0_1 f2_w_0); (try clear l2_w_0); (try clear k2_w_1_0 k2_w_1_1 k2_w_1_2 f2_w_1); (try clear l2_w_1); (try clear k2_g1_0 k2_g1_1 k2_g1_2 k2_g1_3 f2_g1); (try clear l2_g1)))
  go_ret
  refine ⟨rfl, ?_⟩
  repeat' first | (with_reducible first | apply zRf | assumption | apply zDn | apply zDr | apply zAl | apply zSt | refine zVi (by assumption) ?_ ?_) | go_size
end Go.Proofs.Ytfbegjiebahdcaa
