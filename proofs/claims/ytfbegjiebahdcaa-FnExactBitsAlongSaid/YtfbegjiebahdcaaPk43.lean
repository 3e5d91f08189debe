/- Lemmas and contracts of functions. No condition. -/
import Derived.Test.YtfbegjiebahdcaaPk3
import Derived.Test.YtfbegjiebahdcaaPk33
import Derived.Test.YtfbegjiebahdcaaPk42
import Derived.Test.YtfbegjiebahdcaaProg
namespace Go.Proofs.Ytfbegjiebahdcaa
section
open Go.RowKit
set_option linter.unusedVariables false
set_option maxHeartbeats 1000000
set_option maxRecDepth 20000
set_option linter.unusedSimpArgs false
attribute [local go_sem] openAt openUpon
theorem afar4 {w : World} {b1 b2 o2 : Nat} {x0 x1 x2 x3 v : Value} (h : w.cell? ⟨b2, o2, none⟩ = some v) (hne : b1 ≠ b2) : ((((w.setCell ⟨b1, 0, none⟩ x0).setCell ⟨b1, 1, none⟩ x1).setCell ⟨b1, 2, none⟩ x2).setCell ⟨b1, 3, none⟩ x3).cell? ⟨b2, o2, none⟩ = some v := afar2 (afar2 h hne) hne
theorem cellAtQ {Q : Prop} {W w1 : World} (hb : Below W.heap.size W w1) (b : Nat) (h : b < W.heap.size) (k : (∀ o, w1.cell? ⟨b, o, none⟩ = W.cell? ⟨b, o, none⟩) → (∀ o, w1.frozen? ⟨b, o, none⟩ = W.frozen? ⟨b, o, none⟩) → b < w1.heap.size → Q) : Q := k (cellAt hb b h) (frozAt hb b h) (Nat.lt_of_lt_of_le h hb.size)
theorem FnExactBestHeight_any (a b x y e : Int) (w : World) : Calls Try.prog 10 #[.agg #[.int .i64 a, .int .i64 b], .agg #[.int .i64 x, .int .i64 y, .int .i64 e]] w fun e w' => e = .returned (.bool true) ∧ Below w.heap.size w w' := by
  have CS := fun W : World => Lib.hid (sBestHeight_any a b x y e W)
  have CI := fun W : World => Lib.hid (BestHeight_any a b x y e W)
  generalize bsV a b x y e = r at *
  obtain ⟨r1, r2, r3, r4, r5, r6⟩ := r
  dsimp only at CS CI
  have tok1 : True := trivial
  have tok2 : True := trivial
  have tok3 : True := trivial
  have tok4 : True := trivial
  have tok5 : True := trivial
  have tok6 : True := trivial
  have tok7 : True := trivial
  have tok8 : True := trivial
  have tok9 : True := trivial
  go_enter Try.func10, Try.ntmps10
  go_upto_region 1 with (fail)
  refine chk (fun W => Below w.heap.size w W ∧ W.heap[w.heap.size]? = some (.cells #[.int .i64 a, .int .i64 b] 23 (0, 0)) ∧ W.heap[w.heap.size + 1]? = some (.cells #[.int .i64 x, .int .i64 y, .int .i64 e] 51 (0, 0))) (by refine ⟨?_, ?_, ?_⟩ <;> (repeat' first | (with_reducible first | assumption | (apply Ne.symm; assumption) | apply Nat.le_refl | apply Nat.le_add_right | apply zL | apply zRf | apply Wx.box | apply Wx.box4 | apply zWa | apply Wx.drew | apply zWn | apply bx_drew | apply bx_drewN | apply bx_set2 | apply bx_set4 | apply bx_set1) | ((with_reducible apply bx_new); (focus (go_size; done))) | (with_reducible first | apply zOl | apply zFa | apply zDn | apply zDr | apply zAl | apply zSt | refine zVi (by assumption) ?_ ?_) | go_size | omega)) ?_
  rintro w1 ⟨hB1, H_C_1, H_P_1⟩
  obtain ⟨k_C_1_0, k_C_1_1, f_C_1, l_C_1⟩ := bk2 H_C_1
  replace H_C_1 := Lib.hid H_C_1
  obtain ⟨k_P_1_0, k_P_1_1, k_P_1_2, f_P_1, l_P_1⟩ := bk3 H_P_1
  replace H_P_1 := Lib.hid H_P_1
  go_region_held3 (fun w' => w'.cell? ⟨w.heap.size, 0, none⟩ = some (.int .i64 a) ∧ w'.cell? ⟨w.heap.size, 1, none⟩ = some (.int .i64 b) ∧ w'.cell? ⟨w.heap.size + 1, 0, none⟩ = some (.int .i64 x) ∧ w'.cell? ⟨w.heap.size + 1, 1, none⟩ = some (.int .i64 y) ∧ w'.cell? ⟨w.heap.size + 1, 2, none⟩ = some (.int .i64 e)) (first | go_keep | exact ⟨afar4 (by assumption) (by omega), afar4 (by assumption) (by omega), afar4 (by assumption) (by omega), afar4 (by assumption) (by omega), afar4 (by assumption) (by omega)⟩) (first | (have _t := tok2; go_at_call 15; refine (toCurve_any _ _ _).mono ?_; rintro e w2 ⟨rfl, hb2⟩; clear tok2 _t; have hz2 := hb2.size; (try simp only [World.size_alloc, World.size_setCell, World.size_drew, World.size_drewN'] at hz2); (try (have kq := cellAt hb2 (w.heap.size) (by go_size); have k2_w_0_0 := kq 0; have k2_w_0_1 := kq 1; clear kq; have f2_w_0 := frozAt hb2 (w.heap.size) (by go_size); simp [go_sem, *] at k2_w_0_0 k2_w_0_1 f2_w_0)); (try have l2_w_0 : w.heap.size < w2.heap.size := by omega); (try (have kq := cellAt hb2 (w.heap.size + 1) (by go_size); have k2_w_1_0 := kq 0; have k2_w_1_1 := kq 1; have k2_w_1_2 := kq 2; clear kq; have f2_w_1 := frozAt hb2 (w.heap.size + 1) (by go_size); simp [go_sem, *] at k2_w_1_0 k2_w_1_1 k2_w_1_2 f2_w_1)); (try have l2_w_1 : w.heap.size + 1 < w2.heap.size := by omega); (try (refine cellAtQ hb2 (w1.heap.size) ?_ ?_; (focus (go_size; done)); intro kq f2_w1_0 l2_w1_0; have k2_w1_0_0 := kq 0; have k2_w1_0_1 := kq 1; have k2_w1_0_2 := kq 2; have k2_w1_0_3 := kq 3; clear kq; (try simp [go_sem, *] at k2_w1_0_0 k2_w1_0_1 k2_w1_0_2 k2_w1_0_3 f2_w1_0))); (try clear k1_w_0_0 k1_w_0_1 f1_w_0); (try clear l1_w_0); (try clear k1_w_1_0 k1_w_1_1 k1_w_1_2 f1_w_1); (try clear l1_w_1)) | (have _t := tok3; go_at_call 28; refine (toPoint_any _ _ _ _).mono ?_; rintro e w3 ⟨rfl, hb3⟩; clear tok3 _t; have hz3 := hb3.size; (try simp only [World.size_alloc, World.size_setCell, World.size_drew, World.size_drewN'] at hz3); (try (have kq := cellAt hb3 (w.heap.size) (by go_size); have k3_w_0_0 := kq 0; have k3_w_0_1 := kq 1; clear kq; have f3_w_0 := frozAt hb3 (w.heap.size) (by go_size); simp [go_sem, *] at k3_w_0_0 k3_w_0_1 f3_w_0)); (try have l3_w_0 : w.heap.size < w3.heap.size := by omega); (try (have kq := cellAt hb3 (w.heap.size + 1) (by go_size); have k3_w_1_0 := kq 0; have k3_w_1_1 := kq 1; have k3_w_1_2 := kq 2; clear kq; have f3_w_1 := frozAt hb3 (w.heap.size + 1) (by go_size); simp [go_sem, *] at k3_w_1_0 k3_w_1_1 k3_w_1_2 f3_w_1)); (try have l3_w_1 : w.heap.size + 1 < w3.heap.size := by omega); (try (refine cellAtQ hb3 (w1.heap.size) ?_ ?_; (focus (go_size; done)); intro kq f3_w1_0 l3_w1_0; have k3_w1_0_0 := kq 0; have k3_w1_0_1 := kq 1; have k3_w1_0_2 := kq 2; have k3_w1_0_3 := kq 3; clear kq; (try simp [go_sem, *] at k3_w1_0_0 k3_w1_0_1 k3_w1_0_2 k3_w1_0_3 f3_w1_0))); (try (refine cellAtQ hb3 (w2.heap.size) ?_ ?_; (focus (go_size; done)); intro kq f3_w2_0 l3_w2_0; have k3_w2_0_0 := kq 0; have k3_w2_0_1 := kq 1; have k3_w2_0_2 := kq 2; have k3_w2_0_3 := kq 3; clear kq; (try simp [go_sem, *] at k3_w2_0_0 k3_w2_0_1 k3_w2_0_2 k3_w2_0_3 f3_w2_0))); (try clear k1_w_0_0 k1_w_0_1 f1_w_0); (try clear l1_w_0); (try clear k1_w_1_0 k1_w_1_1 k1_w_1_2 f1_w_1); (try clear l1_w_1); (try clear k2_w_0_0 k2_w_0_1 f2_w_0); (try clear l2_w_0); (try clear k2_w_1_0 k2_w_1_1 k2_w_1_2 f2_w_1); (try clear l2_w_1); (try clear k2_w1_0_0 k2_w1_0_1 k2_w1_0_2 k2_w1_0_3 f2_w1_0); (try clear l2_w1_0)) | (have _t := tok4; go_at_call 42; (with_reducible refine ((CS _).out).mono ?_); rintro e w4 ⟨rfl, hb4⟩; clear tok4 _t; have hz4 := hb4.size; (try simp only [World.size_alloc, World.size_setCell, World.size_drew, World.size_drewN'] at hz4); (try (have kq := cellAt hb4 (w.heap.size) (by go_size); have k4_w_0_0 := kq 0; have k4_w_0_1 := kq 1; clear kq; have f4_w_0 := frozAt hb4 (w.heap.size) (by go_size); simp [go_sem, *] at k4_w_0_0 k4_w_0_1 f4_w_0)); (try have l4_w_0 : w.heap.size < w4.heap.size := by omega); (try (have kq := cellAt hb4 (w.heap.size + 1) (by go_size); have k4_w_1_0 := kq 0; have k4_w_1_1 := kq 1; have k4_w_1_2 := kq 2; clear kq; have f4_w_1 := frozAt hb4 (w.heap.size + 1) (by go_size); simp [go_sem, *] at k4_w_1_0 k4_w_1_1 k4_w_1_2 f4_w_1)); (try have l4_w_1 : w.heap.size + 1 < w4.heap.size := by omega); (try (refine cellAtQ hb4 (w1.heap.size) ?_ ?_; (focus (go_size; done)); intro kq f4_w1_0 l4_w1_0; have k4_w1_0_0 := kq 0; have k4_w1_0_1 := kq 1; have k4_w1_0_2 := kq 2; have k4_w1_0_3 := kq 3; clear kq; (try simp [go_sem, *] at k4_w1_0_0 k4_w1_0_1 k4_w1_0_2 k4_w1_0_3 f4_w1_0))); (try (refine cellAtQ hb4 (w2.heap.size) ?_ ?_; (focus (go_size; done)); intro kq f4_w2_0 l4_w2_0; have k4_w2_0_0 := kq 0; have k4_w2_0_1 := kq 1; have k4_w2_0_2 := kq 2; have k4_w2_0_3 := kq 3; clear kq; (try simp [go_sem, *] at k4_w2_0_0 k4_w2_0_1 k4_w2_0_2 k4_w2_0_3 f4_w2_0))); (try (refine cellAtQ hb4 (w3.heap.size) ?_ ?_; (focus (go_size; done)); intro kq f4_w3_0 l4_w3_0; have k4_w3_0_0 := kq 0; have k4_w3_0_1 := kq 1; have k4_w3_0_2 := kq 2; have k4_w3_0_3 := kq 3; clear kq; (try simp [go_sem, *] at k4_w3_0_0 k4_w3_0_1 k4_w3_0_2 k4_w3_0_3 f4_w3_0))); (try clear k1_w_0_0 k1_w_0_1 f1_w_0); (try clear l1_w_0); (try clear k1_w_1_0 k1_w_1_1 k1_w_1_2 f1_w_1); (try clear l1_w_1); (try clear k2_w_0_0 k2_w_0_1 f2_w_0); (try clear l2_w_0); (try clear k2_w_1_0 k2_w_1_1 k2_w_1_2 f2_w_1); (try clear l2_w_1); (try clear k2_w1_0_0 k2_w1_0_1 k2_w1_0_2 k2_w1_0_3 f2_w1_0); (try clear l2_w1_0); (try clear k3_w_0_0 k3_w_0_1 f3_w_0); (try clear l3_w_0); (try clear k3_w_1_0 k3_w_1_1 k3_w_1_2 f3_w_1); (try clear l3_w_1); (try clear k3_w1_0_0 k3_w1_0_1 k3_w1_0_2 k3_w1_0_3 f3_w1_0); (try clear l3_w1_0); (try clear k3_w2_0_0 k3_w2_0_1 k3_w2_0_2 k3_w2_0_3 f3_w2_0); (try clear l3_w2_0)))
  all_goals
    go_wp2_with fail
    go_region_held3 (fun w' => w'.cell? ⟨w.heap.size, 0, none⟩ = some (.int .i64 a) ∧ w'.cell? ⟨w.heap.size, 1, none⟩ = some (.int .i64 b) ∧ w'.cell? ⟨w.heap.size + 1, 0, none⟩ = some (.int .i64 x) ∧ w'.cell? ⟨w.heap.size + 1, 1, none⟩ = some (.int .i64 y) ∧ w'.cell? ⟨w.heap.size + 1, 2, none⟩ = some (.int .i64 e)) (first | go_keep | exact ⟨afar4 (by assumption) (by omega), afar4 (by assumption) (by omega), afar4 (by assumption) (by omega), afar4 (by assumption) (by omega), afar4 (by assumption) (by omega)⟩) (first | (have _t := tok5; go_at_call 15; refine (toCurve_any _ _ _).mono ?_; rintro e w5 ⟨rfl, hb5⟩; clear tok5 _t; have hz5 := hb5.size; (try simp only [World.size_alloc, World.size_setCell, World.size_drew, World.size_drewN'] at hz5); (try (have kq := cellAt hb5 (w.heap.size) (by go_size); have k5_w_0_0 := kq 0; have k5_w_0_1 := kq 1; clear kq; have f5_w_0 := frozAt hb5 (w.heap.size) (by go_size); simp [go_sem, *] at k5_w_0_0 k5_w_0_1 f5_w_0)); (try have l5_w_0 : w.heap.size < w5.heap.size := by omega); (try (have kq := cellAt hb5 (w.heap.size + 1) (by go_size); have k5_w_1_0 := kq 0; have k5_w_1_1 := kq 1; have k5_w_1_2 := kq 2; clear kq; have f5_w_1 := frozAt hb5 (w.heap.size + 1) (by go_size); simp [go_sem, *] at k5_w_1_0 k5_w_1_1 k5_w_1_2 f5_w_1)); (try have l5_w_1 : w.heap.size + 1 < w5.heap.size := by omega); (try (refine cellAtQ hb5 (w1.heap.size) ?_ ?_; (focus (go_size; done)); intro kq f5_w1_0 l5_w1_0; have k5_w1_0_0 := kq 0; have k5_w1_0_1 := kq 1; have k5_w1_0_2 := kq 2; have k5_w1_0_3 := kq 3; clear kq; (try simp [go_sem, *] at k5_w1_0_0 k5_w1_0_1 k5_w1_0_2 k5_w1_0_3 f5_w1_0))); (try (refine cellAtQ hb5 (w2.heap.size) ?_ ?_; (focus (go_size; done)); intro kq f5_w2_0 l5_w2_0; have k5_w2_0_0 := kq 0; have k5_w2_0_1 := kq 1; have k5_w2_0_2 := kq 2; have k5_w2_0_3 := kq 3; clear kq; (try simp [go_sem, *] at k5_w2_0_0 k5_w2_0_1 k5_w2_0_2 k5_w2_0_3 f5_w2_0))); (try (refine cellAtQ hb5 (w3.heap.size) ?_ ?_; (focus (go_size; done)); intro kq f5_w3_0 l5_w3_0; have k5_w3_0_0 := kq 0; have k5_w3_0_1 := kq 1; have k5_w3_0_2 := kq 2; have k5_w3_0_3 := kq 3; clear kq; (try simp [go_sem, *] at k5_w3_0_0 k5_w3_0_1 k5_w3_0_2 k5_w3_0_3 f5_w3_0))); (try (refine cellAtQ hb5 (w4.heap.size) ?_ ?_; (focus (go_size; done)); intro kq f5_w4_0 l5_w4_0; have k5_w4_0_0 := kq 0; have k5_w4_0_1 := kq 1; have k5_w4_0_2 := kq 2; have k5_w4_0_3 := kq 3; clear kq; (try simp [go_sem, *] at k5_w4_0_0 k5_w4_0_1 k5_w4_0_2 k5_w4_0_3 f5_w4_0))); (try (refine cellAtQ hb5 (w4.heap.size + 1) ?_ ?_; (focus (go_size; done)); intro kq f5_w4_1 l5_w4_1; have k5_w4_1_0 := kq 0; have k5_w4_1_1 := kq 1; have k5_w4_1_2 := kq 2; have k5_w4_1_3 := kq 3; clear kq; (try simp [go_sem, *] at k5_w4_1_0 k5_w4_1_1 k5_w4_1_2 k5_w4_1_3 f5_w4_1))); (try clear k1_w_0_0 k1_w_0_1 f1_w_0); (try clear l1_w_0); (try clear k1_w_1_0 k1_w_1_1 k1_w_1_2 f1_w_1); (try clear l1_w_1); (try clear k2_w_0_0 k2_w_0_1 f2_w_0); (try clear l2_w_0); (try clear k2_w_1_0 k2_w_1_1 k2_w_1_2 f2_w_1); (try clear l2_w_1); (try clear k2_w1_0_0 k2_w1_0_1 k2_w1_0_2 k2_w1_0_3 f2_w1_0); (try clear l2_w1_0); (try clear k3_w_0_0 k3_w_0_1 f3_w_0); (try clear l3_w_0); (try clear k3_w_1_0 k3_w_1_1 k3_w_1_2 f3_w_1); (try clear l3_w_1); (try clear k3_w1_0_0 k3_w1_0_1 k3_w1_0_2 k3_w1_0_3 f3_w1_0); (try clear l3_w1_0); (try clear k3_w2_0_0 k3_w2_0_1 k3_w2_0_2 k3_w2_0_3 f3_w2_0); (try clear l3_w2_0); (try clear k4_w_0_0 k4_w_0_1 f4_w_0); (try clear l4_w_0); (try clear k4_w_1_0 k4_w_1_1 k4_w_1_2 f4_w_1); (try clear l4_w_1); (try clear k4_w1_0_0 k4_w1_0_1 k4_w1_0_2 k4_w1_0_3 f4_w1_0); (try clear l4_w1_0); (try clear k4_w2_0_0 k4_w2_0_1 k4_w2_0_2 k4_w2_0_3 f4_w2_0); (try clear l4_w2_0); (try clear k4_w3_0_0 k4_w3_0_1 k4_w3_0_2 k4_w3_0_3 f4_w3_0); (try clear l4_w3_0)) | (have _t := tok6; go_at_call 28; refine (toPoint_any _ _ _ _).mono ?_; rintro e w6 ⟨rfl, hb6⟩; clear tok6 _t; have hz6 := hb6.size; (try simp only [World.size_alloc, World.size_setCell, World.size_drew, World.size_drewN'] at hz6); (try (have kq := cellAt hb6 (w.heap.size) (by go_size); have k6_w_0_0 := kq 0; have k6_w_0_1 := kq 1; clear kq; have f6_w_0 := frozAt hb6 (w.heap.size) (by go_size); simp [go_sem, *] at k6_w_0_0 k6_w_0_1 f6_w_0)); (try have l6_w_0 : w.heap.size < w6.heap.size := by omega); (try (have kq := cellAt hb6 (w.heap.size + 1) (by go_size); have k6_w_1_0 := kq 0; have k6_w_1_1 := kq 1; have k6_w_1_2 := kq 2; clear kq; have f6_w_1 := frozAt hb6 (w.heap.size + 1) (by go_size); simp [go_sem, *] at k6_w_1_0 k6_w_1_1 k6_w_1_2 f6_w_1)); (try have l6_w_1 : w.heap.size + 1 < w6.heap.size := by omega); (try (refine cellAtQ hb6 (w1.heap.size) ?_ ?_; (focus (go_size; done)); intro kq f6_w1_0 l6_w1_0; have k6_w1_0_0 := kq 0; have k6_w1_0_1 := kq 1; have k6_w1_0_2 := kq 2; have k6_w1_0_3 := kq 3; clear kq; (try simp [go_sem, *] at k6_w1_0_0 k6_w1_0_1 k6_w1_0_2 k6_w1_0_3 f6_w1_0))); (try (refine cellAtQ hb6 (w2.heap.size) ?_ ?_; (focus (go_size; done)); intro kq f6_w2_0 l6_w2_0; have k6_w2_0_0 := kq 0; have k6_w2_0_1 := kq 1; have k6_w2_0_2 := kq 2; have k6_w2_0_3 := kq 3; clear kq; (try simp [go_sem, *] at k6_w2_0_0 k6_w2_0_1 k6_w2_0_2 k6_w2_0_3 f6_w2_0))); (try (refine cellAtQ hb6 (w3.heap.size) ?_ ?_; (focus (go_size; done)); intro kq f6_w3_0 l6_w3_0; have k6_w3_0_0 := kq 0; have k6_w3_0_1 := kq 1; have k6_w3_0_2 := kq 2; have k6_w3_0_3 := kq 3; clear kq; (try simp [go_sem, *] at k6_w3_0_0 k6_w3_0_1 k6_w3_0_2 k6_w3_0_3 f6_w3_0))); (try (refine cellAtQ hb6 (w4.heap.size) ?_ ?_; (focus (go_size; done)); intro kq f6_w4_0 l6_w4_0; have k6_w4_0_0 := kq 0; have k6_w4_0_1 := kq 1; have k6_w4_0_2 := kq 2; have k6_w4_0_3 := kq 3; clear kq; (try simp [go_sem, *] at k6_w4_0_0 k6_w4_0_1 k6_w4_0_2 k6_w4_0_3 f6_w4_0))); (try (refine cellAtQ hb6 (w4.heap.size + 1) ?_ ?_; (focus (go_size; done)); intro kq f6_w4_1 l6_w4_1; have k6_w4_1_0 := kq 0; have k6_w4_1_1 := kq 1; have k6_w4_1_2 := kq 2; have k6_w4_1_3 := kq 3; clear kq; (try simp [go_sem, *] at k6_w4_1_0 k6_w4_1_1 k6_w4_1_2 k6_w4_1_3 f6_w4_1))); (try (refine cellAtQ hb6 (w5.heap.size) ?_ ?_; (focus (go_size; done)); intro kq f6_w5_0 l6_w5_0; have k6_w5_0_0 := kq 0; have k6_w5_0_1 := kq 1; have k6_w5_0_2 := kq 2; have k6_w5_0_3 := kq 3; clear kq; (try simp [go_sem, *] at k6_w5_0_0 k6_w5_0_1 k6_w5_0_2 k6_w5_0_3 f6_w5_0))); (try clear k2_w_0_0 k2_w_0_1 f2_w_0); (try clear l2_w_0); (try clear k2_w_1_0 k2_w_1_1 k2_w_1_2 f2_w_1); (try clear l2_w_1); (try clear k2_w1_0_0 k2_w1_0_1 k2_w1_0_2 k2_w1_0_3 f2_w1_0); (try clear l2_w1_0); (try clear k3_w_0_0 k3_w_0_1 f3_w_0); (try clear l3_w_0); (try clear k3_w_1_0 k3_w_1_1 k3_w_1_2 f3_w_1); (try clear l3_w_1); (try clear k3_w1_0_0 k3_w1_0_1 k3_w1_0_2 k3_w1_0_3 f3_w1_0); (try clear l3_w1_0); (try clear k3_w2_0_0 k3_w2_0_1 k3_w2_0_2 k3_w2_0_3 f3_w2_0); (try clear l3_w2_0); (try clear k4_w_0_0 k4_w_0_1 f4_w_0); (try clear l4_w_0); (try clear k4_w_1_0 k4_w_1_1 k4_w_1_2 f4_w_1); (try clear l4_w_1); (try clear k4_w1_0_0 k4_w1_0_1 k4_w1_0_2 k4_w1_0_3 f4_w1_0); (try clear l4_w1_0); (try clear k4_w2_0_0 k4_w2_0_1 k4_w2_0_2 k4_w2_0_3 f4_w2_0); (try clear l4_w2_0); (try clear k4_w3_0_0 k4_w3_0_1 k4_w3_0_2 k4_w3_0_3 f4_w3_0); (try clear l4_w3_0); (try clear k5_w_0_0 k5_w_0_1 f5_w_0); (try clear l5_w_0); (try clear k5_w_1_0 k5_w_1_1 k5_w_1_2 f5_w_1); (try clear l5_w_1); (try clear k5_w1_0_0 k5_w1_0_1 k5_w1_0_2 k5_w1_0_3 f5_w1_0); (try clear l5_w1_0); (try clear k5_w2_0_0 k5_w2_0_1 k5_w2_0_2 k5_w2_0_3 f5_w2_0); (try clear l5_w2_0); (try clear k5_w3_0_0 k5_w3_0_1 k5_w3_0_2 k5_w3_0_3 f5_w3_0); (try clear l5_w3_0); (try clear k5_w4_0_0 k5_w4_0_1 k5_w4_0_2 k5_w4_0_3 f5_w4_0); (try clear l5_w4_0); (try clear k5_w4_1_0 k5_w4_1_1 k5_w4_1_2 k5_w4_1_3 f5_w4_1); (try clear l5_w4_1)) | (have _t := tok7; go_at_call 43; (with_reducible refine ((CI _).out).mono ?_); rintro e w7 ⟨rfl, hb7⟩; clear tok7 _t; have hz7 := hb7.size; (try simp only [World.size_alloc, World.size_setCell, World.size_drew, World.size_drewN'] at hz7); (try (have kq := cellAt hb7 (w.heap.size) (by go_size); have k7_w_0_0 := kq 0; have k7_w_0_1 := kq 1; clear kq; have f7_w_0 := frozAt hb7 (w.heap.size) (by go_size); simp [go_sem, *] at k7_w_0_0 k7_w_0_1 f7_w_0)); (try have l7_w_0 : w.heap.size < w7.heap.size := by omega); (try (have kq := cellAt hb7 (w.heap.size + 1) (by go_size); have k7_w_1_0 := kq 0; have k7_w_1_1 := kq 1; have k7_w_1_2 := kq 2; clear kq; have f7_w_1 := frozAt hb7 (w.heap.size + 1) (by go_size); simp [go_sem, *] at k7_w_1_0 k7_w_1_1 k7_w_1_2 f7_w_1)); (try have l7_w_1 : w.heap.size + 1 < w7.heap.size := by omega); (try (refine cellAtQ hb7 (w1.heap.size) ?_ ?_; (focus (go_size; done)); intro kq f7_w1_0 l7_w1_0; have k7_w1_0_0 := kq 0; have k7_w1_0_1 := kq 1; have k7_w1_0_2 := kq 2; have k7_w1_0_3 := kq 3; clear kq; (try simp [go_sem, *] at k7_w1_0_0 k7_w1_0_1 k7_w1_0_2 k7_w1_0_3 f7_w1_0))); (try (refine cellAtQ hb7 (w2.heap.size) ?_ ?_; (focus (go_size; done)); intro kq f7_w2_0 l7_w2_0; have k7_w2_0_0 := kq 0; have k7_w2_0_1 := kq 1; have k7_w2_0_2 := kq 2; have k7_w2_0_3 := kq 3; clear kq; (try simp [go_sem, *] at k7_w2_0_0 k7_w2_0_1 k7_w2_0_2 k7_w2_0_3 f7_w2_0))); (try (refine cellAtQ hb7 (w3.heap.size) ?_ ?_; (focus (go_size; done)); intro kq f7_w3_0 l7_w3_0; have k7_w3_0_0 := kq 0; have k7_w3_0_1 := kq 1; have k7_w3_0_2 := kq 2; have k7_w3_0_3 := kq 3; clear kq; (try simp [go_sem, *] at k7_w3_0_0 k7_w3_0_1 k7_w3_0_2 k7_w3_0_3 f7_w3_0))); (try (refine cellAtQ hb7 (w4.heap.size) ?_ ?_; (focus (go_size; done)); intro kq f7_w4_0 l7_w4_0; have k7_w4_0_0 := kq 0; have k7_w4_0_1 := kq 1; have k7_w4_0_2 := kq 2; have k7_w4_0_3 := kq 3; clear kq; (try simp [go_sem, *] at k7_w4_0_0 k7_w4_0_1 k7_w4_0_2 k7_w4_0_3 f7_w4_0))); (try (refine cellAtQ hb7 (w4.heap.size + 1) ?_ ?_; (focus (go_size; done)); intro kq f7_w4_1 l7_w4_1; have k7_w4_1_0 := kq 0; have k7_w4_1_1 := kq 1; have k7_w4_1_2 := kq 2; have k7_w4_1_3 := kq 3; clear kq; (try simp [go_sem, *] at k7_w4_1_0 k7_w4_1_1 k7_w4_1_2 k7_w4_1_3 f7_w4_1))); (try (refine cellAtQ hb7 (w5.heap.size) ?_ ?_; (focus (go_size; done)); intro kq f7_w5_0 l7_w5_0; have k7_w5_0_0 := kq 0; have k7_w5_0_1 := kq 1; have k7_w5_0_2 := kq 2; have k7_w5_0_3 := kq 3; clear kq; (try simp [go_sem, *] at k7_w5_0_0 k7_w5_0_1 k7_w5_0_2 k7_w5_0_3 f7_w5_0))); (try (refine cellAtQ hb7 (w6.heap.size) ?_ ?_; (focus (go_size; done)); intro kq f7_w6_0 l7_w6_0; have k7_w6_0_0 := kq 0; have k7_w6_0_1 := kq 1; have k7_w6_0_2 := kq 2; have k7_w6_0_3 := kq 3; clear kq; (try simp [go_sem, *] at k7_w6_0_0 k7_w6_0_1 k7_w6_0_2 k7_w6_0_3 f7_w6_0))); (try clear k3_w_0_0 k3_w_0_1 f3_w_0); (try clear l3_w_0); (try clear k3_w_1_0 k3_w_1_1 k3_w_1_2 f3_w_1); (try clear l3_w_1); (try clear k3_w1_0_0 k3_w1_0_1 k3_w1_0_2 k3_w1_0_3 f3_w1_0); (try clear l3_w1_0); (try clear k3_w2_0_0 k3_w2_0_1 k3_w2_0_2 k3_w2_0_3 f3_w2_0); (try clear l3_w2_0); (try clear k4_w_0_0 k4_w_0_1 f4_w_0); (try clear l4_w_0); (try clear k4_w_1_0 k4_w_1_1 k4_w_1_2 f4_w_1); (try clear l4_w_1); (try clear k4_w1_0_0 k4_w1_0_1 k4_w1_0_2 k4_w1_0_3 f4_w1_0); (try clear l4_w1_0); (try clear k4_w2_0_0 k4_w2_0_1 k4_w2_0_2 k4_w2_0_3 f4_w2_0); (try clear l4_w2_0); (try clear k4_w3_0_0 k4_w3_0_1 k4_w3_0_2 k4_w3_0_3 f4_w3_0); (try clear l4_w3_0); (try clear k5_w_0_0 k5_w_0_1 f5_w_0); (try clear l5_w_0); (try clear k5_w_1_0 k5_w_1_1 k5_w_1_2 f5_w_1); (try clear l5_w_1); (try clear k5_w1_0_0 k5_w1_0_1 k5_w1_0_2 k5_w1_0_3 f5_w1_0); (try clear l5_w1_0); (try clear k5_w2_0_0 k5_w2_0_1 k5_w2_0_2 k5_w2_0_3 f5_w2_0); (try clear l5_w2_0); (try clear k5_w3_0_0 k5_w3_0_1 k5_w3_0_2 k5_w3_0_3 f5_w3_0); (try clear l5_w3_0); (try clear k5_w4_0_0 k5_w4_0_1 k5_w4_0_2 k5_w4_0_3 f5_w4_0); (try clear l5_w4_0); (try clear k5_w4_1_0 k5_w4_1_1 k5_w4_1_2 k5_w4_1_3 f5_w4_1); (try clear l5_w4_1); (try clear k6_w_0_0 k6_w_0_1 f6_w_0); (try clear l6_w_0); (try clear k6_w_1_0 k6_w_1_1 k6_w_1_2 f6_w_1); (try clear l6_w_1); (try clear k6_w1_0_0 k6_w1_0_1 k6_w1_0_2 k6_w1_0_3 f6_w1_0); (try clear l6_w1_0); (try clear k6_w2_0_0 k6_w2_0_1 k6_w2_0_2 k6_w2_0_3 f6_w2_0); (try clear l6_w2_0); (try clear k6_w3_0_0 k6_w3_0_1 k6_w3_0_2 k6_w3_0_3 f6_w3_0); (try clear l6_w3_0); (try clear k6_w4_0_0 k6_w4_0_1 k6_w4_0_2 k6_w4_0_3 f6_w4_0); (try clear l6_w4_0); (try clear k6_w4_1_0 k6_w4_1_1 k6_w4_1_2 k6_w4_1_3 f6_w4_1); (try clear l6_w4_1); (try clear k6_w5_0_0 k6_w5_0_1 k6_w5_0_2 k6_w5_0_3 f6_w5_0); (try clear l6_w5_0)))
  all_goals
    go_wp2_with (first | (have _t := tok9; go_at_call 39; refine (eqInterval_same _ _ _ _ _).mono ?_; rintro e w9 ⟨rfl, hb9⟩; clear tok9 _t; have hz9 := hb9.size; (try simp only [World.size_alloc, World.size_setCell, World.size_drew, World.size_drewN'] at hz9); (try (have kq := cellAt hb9 (w.heap.size) (by go_size); have k9_w_0_0 := kq 0; have k9_w_0_1 := kq 1; clear kq; have f9_w_0 := frozAt hb9 (w.heap.size) (by go_size); simp [go_sem, *] at k9_w_0_0 k9_w_0_1 f9_w_0)); (try have l9_w_0 : w.heap.size < w9.heap.size := by omega); (try (have kq := cellAt hb9 (w.heap.size + 1) (by go_size); have k9_w_1_0 := kq 0; have k9_w_1_1 := kq 1; have k9_w_1_2 := kq 2; clear kq; have f9_w_1 := frozAt hb9 (w.heap.size + 1) (by go_size); simp [go_sem, *] at k9_w_1_0 k9_w_1_1 k9_w_1_2 f9_w_1)); (try have l9_w_1 : w.heap.size + 1 < w9.heap.size := by omega); (try clear k5_w_0_0 k5_w_0_1 f5_w_0); (try clear l5_w_0); (try clear k5_w_1_0 k5_w_1_1 k5_w_1_2 f5_w_1); (try clear l5_w_1); (try clear k6_w_0_0 k6_w_0_1 f6_w_0); (try clear l6_w_0); (try clear k6_w_1_0 k6_w_1_1 k6_w_1_2 f6_w_1); (try clear l6_w_1); (try clear k7_w_0_0 k7_w_0_1 f7_w_0); (try clear l7_w_0); (try clear k7_w_1_0 k7_w_1_1 k7_w_1_2 f7_w_1); (try clear l7_w_1); (try clear k8_w_0_0 k8_w_0_1 f8_w_0); (try clear l8_w_0); (try clear k8_w_1_0 k8_w_1_1 k8_w_1_2 f8_w_1); (try clear l8_w_1)))
  all_goals
    go_ret
    refine ⟨rfl, ?_⟩
    repeat' first | (with_reducible first | apply zRf | assumption | apply zDn | apply zDr | apply zAl | apply zSt | refine zVi (by assumption) ?_ ?_) | go_size
end
section
open Go.RowKit
set_option linter.unusedVariables false
set_option maxHeartbeats 1000000
set_option maxRecDepth 20000
set_option linter.unusedSimpArgs false
attribute [local go_sem] openAt openUpon
/-- a row of integers that a call has made: its value, and the numbers -/
def OwnI (W : World) (B : Nat) (T : TypeId) (v : Value) (zs : List Int) : Prop := W.ownsRow B T 1 v zs.length (ints zs)
theorem OwnI.below {W W2 : World} {B : Nat} {T : TypeId} {v : Value} {zs : List Int} (h : OwnI W B T v zs) (hb : Below W.heap.size W W2) : OwnI W2 B T v zs :=
  ⟨h.1, h.2.imp id fun ⟨g, cap, cur, hv, hB, hg, rest⟩ => ⟨g, cap, cur, hv, hB, (hb.block g (blk_lt' hg)).trans hg, rest⟩⟩
theorem OwnI.shape {W : World} {B : Nat} {T : TypeId} {v : Value} {zs : List Int} (h : OwnI W B T v zs) : (v = .slice none 0 0 ∧ zs = []) ∨ ∃ g cap, v = .slice (some ⟨g, 0, none⟩) zs.length cap ∧ zs.length ≤ cap ∧ cap ≤ maxLen ∧ B ≤ g ∧ g < W.heap.size ∧ (∀ j, j < zs.length → W.cell? ⟨g, j, none⟩ = some (.int .i64 (zs[j]?.getD 0))) ∧ (∀ o, W.frozen? ⟨g, o, none⟩ = false) := by
  obtain ⟨hl, h⟩ := h
  rcases h with ⟨h1, h2⟩ | ⟨g, cap, cur, hv, hB, hg, hnc, hcm, hcs, ht⟩
  · exact .inl ⟨h1, List.length_eq_zero_iff.1 h2⟩
  · refine .inr ⟨g, cap, hv, hnc, hcm, hB, blk_lt' hg, fun j hj => ?_, fun o => blk_frozen hg o⟩
    rw [cell_of_row W g j cur T (0, 0) hg]
    have h3 : (ints zs)[j]? = cur[j]? := by rw [← ht, List.getElem?_take, if_pos (by omega)]; simp
    rw [← h3, ints_at zs j hj, List.getD_eq_getElem?_getD]
theorem OwnI.set {W : World} {B g cap : Nat} {T : TypeId} {zs : List Int} (h : OwnI W B T (.slice (some ⟨g, 0, none⟩) zs.length cap) zs) {j : Nat} (hj : j < zs.length) (x : Int) : OwnI (W.setCell ⟨g, j, none⟩ (.int .i64 x)) B T (.slice (some ⟨g, 0, none⟩) zs.length cap) (zs.set j x) := by
  obtain ⟨hl, h⟩ := h
  rcases h with ⟨h1, h2⟩ | ⟨g', cap', cur, hv, hB, hg, hnc, hcm, hcs, ht⟩
  · cases h1
  · simp only [Value.slice.injEq, Option.some.injEq, Addr.mk.injEq, and_true, true_and] at hv
    obtain ⟨rfl, rfl⟩ := hv
    refine ⟨by simp [ints], .inr ⟨g, cap, cur.setIfInBounds j (.int .i64 x), by simp, hB, ?_, by simpa using hnc, hcm, by simpa using hcs, ?_⟩⟩
    · simpa using blk_set (o := j) (v := .int .i64 x) hg
    · simp only [List.length_set, Array.toList_setIfInBounds]
      rw [List.take_set, ht]
      simp [ints, List.map_set]
/-- n marks from k on -/
def marks (k : Int) : Nat → List Int
  | 0 => []
  | n + 1 => marks k n ++ [k + n]
theorem marks_len (k : Int) : ∀ n, (marks k n).length = n
  | 0 => rfl
  | n + 1 => by simp [marks, marks_len k n]
theorem marks_at (k : Int) : ∀ (n j : Nat), j < n → (marks k n)[j]?.getD 0 = k + j
  | n + 1, j, h => by
    by_cases hj : j < n
    · rw [marks, List.getElem?_append_left (by rw [marks_len]; exact hj)]; exact marks_at k n j hj
    · obtain rfl : j = n := by omega
      rw [marks, List.getElem?_append_right (by rw [marks_len]; omega), marks_len]; simp
theorem marks_set {k : Int} {qs : List Int} {n j : Nat} (hl : qs.length = n) (hj : j < n) (h : qs.take j = marks k j) : (qs.set j (k + j)).take (j + 1) = marks k (j + 1) := by
  rw [marks, ← h, List.take_set]
  apply List.ext_getElem?
  intro i
  simp only [List.getElem?_set, List.getElem?_take, List.length_take, hl, List.getElem?_append]
  by_cases h1 : i < j
  · rw [if_neg (by omega), if_pos (by omega), if_pos (by omega), if_pos h1]
  · by_cases h2 : i = j
    · subst h2
      rw [if_pos rfl, if_pos (by omega), if_neg (by omega)]
      simp [show i - min i n = 0 by omega]
    · rw [if_neg (by omega), if_neg (by omega), if_neg (by omega)]
      rw [List.getElem?_eq_none (by simp; omega)]
theorem eqIntS_same {a a2 : Option Addr} {n c n2 c2 : Nat} {zs : List Int} {w : World} (h : Sx w a n c zs) (h2 : Sx w a2 n2 c2 zs) : Calls Try.prog 30 #[.slice a n c, .slice a2 n2 c2] w fun e w' => e = .returned (.bool true) ∧ Below w.heap.size w w' := by
  obtain rfl : n2 = n := by have := h2.len; have := h.len; omega
  have hnm := h.cap
  have hnm2 := h.max
  unfold maxLen at hnm2
  have e1 : ((n2 : Int) != (n2 : Int)) = false := by simp
  go_enter Try.func30, Try.ntmps30
  go_wp2_with fail
  go_loopw [5] (fun iv wr => ∃ k : Nat, iv = .int .i64 k ∧ k ≤ n2 ∧ ∃ m, wr = w.drewN m) (fun iv _ => (n2 - intOf iv).toNat)
  case atStart => exact ⟨0, rfl, by omega, 0, rfl⟩
  case round =>
    obtain ⟨k, rfl, hk, m, rfl⟩ := hrel
    by_cases h0 : k < n2
    · obtain ⟨b, off, rfl, hb, hcs⟩ := h.at (by omega)
      obtain ⟨b2, off2, rfl, hb2, hcs2⟩ := h2.at (by omega)
      have c0 := hcs k h0
      have d0 := hcs2 k h0
      have hk2 : (k : Int) < (n2 : Int) := by omega
      have hx : ∀ x : Int, (x != x) = false := fun x => by simp
      clear hcs hcs2
      go_wp2_with fail
      go_quiet (fail)
      go_wp2_with fail
      go_roundw
      case rel => exact ⟨k + 1, by go_num, by omega, _, rfl⟩
      case measure => simp [intOf]; omega
    · obtain rfl : k = n2 := by omega
      go_wp2_with fail
      go_ret
      exact ⟨rfl, below_drewN (Below.refl _ _) _⟩
theorem heldIntS_any {a : Option Addr} {n c : Nat} {k : Int} {w : World} (h : Sx w a n c (marks k n)) (h0 : 0 ≤ k) (h1 : k ≤ 1000000) (hn : n ≤ 1000000) : Calls Try.prog 32 #[.slice a n c, .int .i64 k] w fun e w' => e = .returned (.int .i64 (k + n)) ∧ Below w.heap.size w w' := by
  go_enter Try.func32, Try.ntmps32
  go_wp2_with fail
  go_loopw [5, 1] (fun iv kv wr => ∃ j : Nat, iv = .int .i64 j ∧ kv = .int .i64 (k + j) ∧ j ≤ n ∧ wr = w) (fun iv _ _ => (n - intOf iv).toNat)
  case atStart => exact ⟨0, rfl, by simp, by omega, rfl⟩
  case round =>
    obtain ⟨j, rfl, rfl, hj, rfl⟩ := hrel
    by_cases hlt : j < n
    · obtain ⟨b, off, rfl, hb, hcs⟩ := h.at (by omega)
      have c0 := hcs j hlt
      rw [marks_at k n j hlt] at c0
      have hk2 : (j : Int) < (n : Int) := by omega
      have hx : ((k + (j : Int)) != (k + (j : Int))) = false := by simp
      clear hcs
      go_wp2_with fail
      go_roundw
      case rel => exact ⟨j + 1, by go_num, by congr 1; omega, by omega, (by first | rfl | trivial)⟩
      case measure => simp [intOf]; omega
    · obtain rfl : j = n := by omega
      go_wp2_with fail
      go_ret
      exact ⟨rfl, Below.refl _ _⟩
/-- world wr: row v holds qs, every other block is as in w -/
def MaRel (w : World) (B : Nat) (v : Value) (k : Int) (n : Nat) (iv kv : Value) (wr : World) : Prop := ∃ (j : Nat) (qs : List Int), iv = .int .i64 j ∧ kv = .int .i64 (k + j) ∧ j ≤ n ∧ qs.length = n ∧ qs.take j = marks k j ∧ OwnI wr B 3 v qs ∧ w.grownBy wr v.ownBlock
theorem markIntS_any {v : Value} {B : Nat} {zs : List Int} {k : Int} {w : World} (h : OwnI w B 3 v zs) (h0 : 0 ≤ k) (h1 : k ≤ 1000000) (hn : zs.length ≤ 1000000) : Calls Try.prog 31 #[v, .int .i64 k] w fun e w' => e = .returned (.int .i64 (k + zs.length)) ∧ OwnI w' B 3 v (marks k zs.length) ∧ w.grownBy w' v.ownBlock := by
  have hsh := h.shape
  obtain ⟨n, hnl⟩ : ∃ n, zs.length = n := ⟨_, rfl⟩
  have hv : ∃ a c, v = .slice a n c := by
    rcases hsh with ⟨rfl, rfl⟩ | ⟨g, cap, rfl, _⟩
    · exact ⟨none, 0, by rw [← hnl]; rfl⟩
    · exact ⟨_, _, by rw [← hnl]⟩
  obtain ⟨a, c, rfl⟩ := hv
  rw [hnl] at hn ⊢
  have HL := Lib.hid hnl
  clear hsh hnl
  go_enter Try.func31, Try.ntmps31
  go_wp2_with fail
  go_loopw [5, 1] (fun iv kv wr => MaRel w B (.slice a n c) k n iv kv wr) (fun iv _ _ => (n - intOf iv).toNat)
  case atStart => exact ⟨0, zs, rfl, by simp, by omega, HL.out, rfl, h, ⟨rfl, rfl, rfl, Nat.le_refl _, fun _ _ _ => rfl⟩⟩
  case round =>
    obtain ⟨j, qs, rfl, rfl, hj, hq, ht, ho, hg⟩ := hrel
    have HQ := Lib.hid hq
    have HT := Lib.hid ht
    clear hq ht
    by_cases hlt : j < n
    · rcases ho.shape with ⟨_, h3⟩ | ⟨g, cap, h3, hnc, hcm, hB, hgs, hcl, hfz⟩
      · exfalso; have := HQ.out; rw [h3] at this; simp at this; omega
      · simp only [Value.slice.injEq] at h3
        obtain ⟨rfl, h4, rfl⟩ := h3
        clear h4
        have HO := Lib.hid ho
        have c0 := hcl j (by have := HQ.out; omega)
        have hk2 : (j : Int) < (n : Int) := by omega
        have f0 := hfz j
        clear hcl ho
        go_wp2_with fail
        go_roundw
        case rel =>
          have ho := HO.out
          have e : n = qs.length := HQ.out.symm
          refine ⟨j + 1, qs.set j (k + j), by go_num, by congr 1; omega, by omega, by simp [HQ.out], marks_set HQ.out hlt HT.out, ?_, ?_⟩
          · rw [e] at ho ⊢
            exact ho.set (by omega) _
          · exact ⟨hg.os, hg.tape, hg.output, by simpa [World.setCell] using hg.size, fun i hi hne => by
              rw [← hg.block i hi hne]
              exact Below.heap_setCell wr ⟨g, j, none⟩ _ i (fun e2 => hne (by rw [e2]; rfl))⟩
        case measure => simp [intOf]; omega
    · obtain rfl : j = n := by omega
      have e : qs = marks k j := by rw [← HT.out, List.take_of_length_le (by have := HQ.out; omega)]
      subst e
      go_wp2_with fail
      go_ret
      exact ⟨rfl, ho, hg⟩
end
section
open Go.RowKit
set_option linter.unusedVariables false
set_option maxHeartbeats 1000000
set_option maxRecDepth 20000
set_option linter.unusedSimpArgs false
attribute [local go_sem] openAt openUpon
def baL (st : Nat → RSt) : Nat → List Int
  | 0 => []
  | k + 1 => baL st k ++ [bitsOf (st k)]
theorem baL_len (st : Nat → RSt) : ∀ k, (baL st k).length = k
  | 0 => rfl
  | k + 1 => by simp [baL, baL_len st k]
def baB (A B x y e n : Int) : Bool := pqB A B x y e && (!decide (e = 0) && (inB n 0 5 && atB (ptSt A B x e n.toNat)))
def baV (A B x y e n : Int) : List Int := if baB A B x y e n = true then baL (ptSt A B x e) (n.toNat + 1) else []
theorem baV_cases (A B x y e n : Int) : (pqB A B x y e = false ∧ baB A B x y e n = false ∧ baV A B x y e n = []) ∨ (pqB A B x y e = true ∧ (e = 0 ∧ baB A B x y e n = false ∧ baV A B x y e n = [] ∨ e ≠ 0 ∧ (inB n 0 5 = false ∧ baB A B x y e n = false ∧ baV A B x y e n = [] ∨ inB n 0 5 = true ∧
    (atB (ptSt A B x e n.toNat) = false ∧ baB A B x y e n = false ∧ baV A B x y e n = [] ∨ atB (ptSt A B x e n.toNat) = true ∧ baB A B x y e n = true ∧ baV A B x y e n = baL (ptSt A B x e) (n.toNat + 1))))) := by
  have hn : baB A B x y e n = false → baV A B x y e n = [] := fun h => by simp [baV, h]
  cases h1 : pqB A B x y e
  · left; have : baB A B x y e n = false := by simp [baB, h1]
    exact ⟨rfl, this, hn this⟩
  · right; refine ⟨rfl, ?_⟩
    by_cases h2 : e = 0
    · left; have : baB A B x y e n = false := by simp [baB, h1, h2]
      exact ⟨h2, this, hn this⟩
    · right; refine ⟨h2, ?_⟩
      cases h3 : inB n 0 5
      · left; have : baB A B x y e n = false := by simp [baB, h1, h2, h3]
        exact ⟨rfl, this, hn this⟩
      · right; refine ⟨rfl, ?_⟩
        cases h4 : atB (ptSt A B x e n.toNat)
        · left; have : baB A B x y e n = false := by simp [baB, h1, h2, h3, h4]
          exact ⟨rfl, this, hn this⟩
        · right; have : baB A B x y e n = true := by simp [baB, h1, h2, h3, h4]
          exact ⟨rfl, this, by simp [baV, this]⟩
/-- a contract whose values are a row of integers of its own and a flag -/
def NewI (w : World) (zs : List Int) (ok : Bool) (e : Ending) (w' : World) : Prop := ∃ v B, e = .returned (.tuple #[v, .bool ok]) ∧ OwnI w' B 3 v zs ∧ w.heap.size ≤ B ∧ Below w.heap.size w w'
theorem OwnI.nil (W : World) (B : Nat) (T : TypeId) : OwnI W B T (.slice none 0 0) [] := World.ownsRow_nil _ _ _ _
theorem RowRt.cells {W : World} {B g m cap : Nat} {T : TypeId} {zs : List (Int × Int)} (h : RowRt W B T (.slice (some ⟨g, 0, none⟩) m cap) zs) {i : Nat} (hi : i < zs.length) :
    g < W.heap.size ∧ ∃ b a n c b2 a2 n2 c2, W.cell? ⟨g, i * 4, none⟩ = some (.bool b) ∧ W.cell? ⟨g, i * 4 + 1, none⟩ = some (.slice a n c) ∧ W.cell? ⟨g, i * 4 + 2, none⟩ = some (.bool b2) ∧ W.cell? ⟨g, i * 4 + 3, none⟩ = some (.slice a2 n2 c2) ∧
      Wx W b a n c (zs.getD i (0, 0)).1 ∧ Wx W b2 a2 n2 c2 (zs.getD i (0, 0)).2 := by
  obtain ⟨g', cap', b, a, n, c, b2, a2, n2, c2, hv, _, _, _, hg, g1, g2, g3, g4, g5, g6⟩ := h.at hi
  simp only [Value.slice.injEq, Option.some.injEq, Addr.mk.injEq, and_true] at hv
  obtain ⟨rfl, _, _⟩ := hv
  exact ⟨hg, b, a, n, c, b2, a2, n2, c2, g1, g2, g3, g4, g5, g6⟩
def BbRel (w : World) (A B x y e : Int) (st : Nat → RSt) (n : Nat) (iv ov : Value) (wr : World) : Prop := ∃ (k : Nat) (v : Value), iv = .int .i64 k ∧ v = ov ∧ k ≤ n + 1 ∧ (∀ i, i < k → atB (st i) = true) ∧ OwnI wr (w.heap.size + 2) 3 v (baL st k) ∧ wr.heap[w.heap.size]? = some (.cells #[.int .i64 A, .int .i64 B] 28 (0, 0)) ∧ wr.heap[w.heap.size + 1]? = some (.cells #[.int .i64 x, .int .i64 y, .int .i64 e] 54 (0, 0)) ∧ Below w.heap.size w wr
theorem BitsAlong_any (A B x y e n : Int) (w : World) : Calls Try.prog 29 #[.agg #[.int .i64 A, .int .i64 B], .agg #[.int .i64 x, .int .i64 y, .int .i64 e], .int .i64 n] w (NewI w (baV A B x y e n) (baB A B x y e n)) := by
  have T1 := fun W : World => Lib.hid (isP_any A B x y e W)
  have T2 := fun W : World => Lib.hid (inside_any n 0 5 W)
  rcases baV_cases A B x y e n with ⟨h1, e1, e2⟩ | ⟨h1, ⟨h2, e1, e2⟩ | ⟨h2, ⟨h3, e1, e2⟩ | ⟨h3, h4⟩⟩⟩
  · rw [e1, e2]
    rw [h1] at T1
    clear h1 e1 e2
    have tok1 : True := trivial
    go_enter Try.func29, Try.ntmps29
    go_wp2_with (first | (have _t := tok1; go_at_call 74; (with_reducible refine ((T1 _).out).mono ?_); rintro e w1 ⟨rfl, hb1⟩; clear tok1 _t; have hz1 := hb1.size; (try simp only [World.size_alloc, World.size_setCell, World.size_drew, World.size_drewN'] at hz1); (try (have kq := cellAt hb1 (w.heap.size) (by go_size); have k1_w_0_0 := kq 0; have k1_w_0_1 := kq 1; clear kq; have f1_w_0 := frozAt hb1 (w.heap.size) (by go_size); simp [go_sem, *] at k1_w_0_0 k1_w_0_1 f1_w_0)); (try have l1_w_0 : w.heap.size < w1.heap.size := by omega); (try (have kq := cellAt hb1 (w.heap.size + 1) (by go_size); have k1_w_1_0 := kq 0; have k1_w_1_1 := kq 1; have k1_w_1_2 := kq 2; clear kq; have f1_w_1 := frozAt hb1 (w.heap.size + 1) (by go_size); simp [go_sem, *] at k1_w_1_0 k1_w_1_1 k1_w_1_2 f1_w_1)); (try have l1_w_1 : w.heap.size + 1 < w1.heap.size := by omega)) | (go_at_call 59; (with_reducible refine ((T2 _).out).mono ?_); rintro e w' ⟨rfl, rfl⟩))
    go_ret2
    refine ⟨.slice none 0 0, w.heap.size, rfl, OwnI.nil _ _ _, Nat.le_refl _, ?_⟩
    repeat' first | (with_reducible first | apply zRf | assumption | apply zDn | apply zDr | apply zAl | apply zSt | refine zVi (by assumption) ?_ ?_) | go_size
  · rw [e1, e2]
    rw [h1] at T1
    subst h2
    clear h1 e1 e2
    have tok1 : True := trivial
    go_enter Try.func29, Try.ntmps29
    go_wp2_with (first | (have _t := tok1; go_at_call 74; (with_reducible refine ((T1 _).out).mono ?_); rintro e w1 ⟨rfl, hb1⟩; clear tok1 _t; have hz1 := hb1.size; (try simp only [World.size_alloc, World.size_setCell, World.size_drew, World.size_drewN'] at hz1); (try (have kq := cellAt hb1 (w.heap.size) (by go_size); have k1_w_0_0 := kq 0; have k1_w_0_1 := kq 1; clear kq; have f1_w_0 := frozAt hb1 (w.heap.size) (by go_size); simp [go_sem, *] at k1_w_0_0 k1_w_0_1 f1_w_0)); (try have l1_w_0 : w.heap.size < w1.heap.size := by omega); (try (have kq := cellAt hb1 (w.heap.size + 1) (by go_size); have k1_w_1_0 := kq 0; have k1_w_1_1 := kq 1; have k1_w_1_2 := kq 2; clear kq; have f1_w_1 := frozAt hb1 (w.heap.size + 1) (by go_size); simp [go_sem, *] at k1_w_1_0 k1_w_1_1 k1_w_1_2 f1_w_1)); (try have l1_w_1 : w.heap.size + 1 < w1.heap.size := by omega)) | (go_at_call 59; (with_reducible refine ((T2 _).out).mono ?_); rintro e w' ⟨rfl, rfl⟩))
    go_ret2
    refine ⟨.slice none 0 0, w.heap.size, rfl, OwnI.nil _ _ _, Nat.le_refl _, ?_⟩
    repeat' first | (with_reducible first | apply zRf | assumption | apply zDn | apply zDr | apply zAl | apply zSt | refine zVi (by assumption) ?_ ?_) | go_size
  · rw [e1, e2]
    rw [h1] at T1
    rw [h3] at T2
    have h2' : (e == 0) = false := by simpa using h2
    clear h1 e1 e2 h3
    have tok1 : True := trivial
    go_enter Try.func29, Try.ntmps29
    go_wp2_with (first | (have _t := tok1; go_at_call 74; (with_reducible refine ((T1 _).out).mono ?_); rintro e w1 ⟨rfl, hb1⟩; clear tok1 _t; have hz1 := hb1.size; (try simp only [World.size_alloc, World.size_setCell, World.size_drew, World.size_drewN'] at hz1); (try (have kq := cellAt hb1 (w.heap.size) (by go_size); have k1_w_0_0 := kq 0; have k1_w_0_1 := kq 1; clear kq; have f1_w_0 := frozAt hb1 (w.heap.size) (by go_size); simp [go_sem, *] at k1_w_0_0 k1_w_0_1 f1_w_0)); (try have l1_w_0 : w.heap.size < w1.heap.size := by omega); (try (have kq := cellAt hb1 (w.heap.size + 1) (by go_size); have k1_w_1_0 := kq 0; have k1_w_1_1 := kq 1; have k1_w_1_2 := kq 2; clear kq; have f1_w_1 := frozAt hb1 (w.heap.size + 1) (by go_size); simp [go_sem, *] at k1_w_1_0 k1_w_1_1 k1_w_1_2 f1_w_1)); (try have l1_w_1 : w.heap.size + 1 < w1.heap.size := by omega)) | (go_at_call 59; (with_reducible refine ((T2 _).out).mono ?_); rintro e w' ⟨rfl, rfl⟩))
    go_ret2
    refine ⟨.slice none 0 0, w.heap.size, rfl, OwnI.nil _ _ _, Nat.le_refl _, ?_⟩
    repeat' first | (with_reducible first | apply zRf | assumption | apply zDn | apply zDr | apply zAl | apply zSt | refine zVi (by assumption) ?_ ?_) | go_size
  · have hb := pq_bd h1
    have hk := inB_iff.1 h3
    obtain ⟨m, rfl⟩ : ∃ m : Nat, n = m := ⟨n.toNat, by omega⟩
    rw [Int.toNat_natCast] at h4
    have h2' : (e == 0) = false := by simpa using h2
    have TK := fun (W : World) (k : Nat) (hk : k ≤ 1000) => bitsAt_any A B x y e k W hb.1 hb.2.1 hb.2.2.1 hb.2.2.2.1 hb.2.2.2.2 hk
    have SI := Lib.hid (fun j (h : ptSt A B x e j = .inf) k hk => ptSt_inf h k hk)
    have SB := Lib.hid (fun j (h : ptSt A B x e j = .bad) k hk => ptSt_bad h k hk)
    have SK := Lib.hid (fun k => ptSt_ok (A := A) (B := B) hb.2.2.2.1 hb.2.2.2.2 k)
    rw [h1] at T1
    rw [h3] at T2
    obtain ⟨ok, hok⟩ : ∃ v, baB A B x y e m = v := ⟨_, rfl⟩
    obtain ⟨zs, hzs⟩ : ∃ v, baV A B x y e m = v := ⟨_, rfl⟩
    rw [hok, hzs] at h4 ⊢
    have H4 := Lib.hid h4
    have TKH := Lib.hid TK
    have hm5 : m ≤ 5 := by omega
    have hmc : (m : Int) ≤ 5 := by omega
    clear h1 h3 h4 hok hzs TK hb
    generalize ptSt A B x e = st at *
    obtain ⟨i0, hi, iz0, iz1, iz2⟩ := info_parts infoInt
    have tok1 : True := trivial
    have tok2 : True := trivial
    have tok3 : True := trivial
    have tok4 : True := trivial
    have tok5 : True := trivial
    go_enter Try.func29, Try.ntmps29
    go_wp2_with (first | (have _t := tok1; go_at_call 74; (with_reducible refine ((T1 _).out).mono ?_); rintro e w1 ⟨rfl, hb1⟩; clear tok1 _t; have hz1 := hb1.size; (try simp only [World.size_alloc, World.size_setCell, World.size_drew, World.size_drewN'] at hz1); (try (have kq := cellAt hb1 (w.heap.size) (by go_size); have k1_w_0_0 := kq 0; have k1_w_0_1 := kq 1; clear kq; have f1_w_0 := frozAt hb1 (w.heap.size) (by go_size); simp [go_sem, *] at k1_w_0_0 k1_w_0_1 f1_w_0)); (try have l1_w_0 : w.heap.size < w1.heap.size := by omega); (try (have kq := cellAt hb1 (w.heap.size + 1) (by go_size); have k1_w_1_0 := kq 0; have k1_w_1_1 := kq 1; have k1_w_1_2 := kq 2; clear kq; have f1_w_1 := frozAt hb1 (w.heap.size + 1) (by go_size); simp [go_sem, *] at k1_w_1_0 k1_w_1_1 k1_w_1_2 f1_w_1)); (try have l1_w_1 : w.heap.size + 1 < w1.heap.size := by omega)) | (go_at_call 59; (with_reducible refine ((T2 _).out).mono ?_); rintro e w' ⟨rfl, rfl⟩))
    have hz1' := hb1.size
    simp only [World.size_alloc] at hz1'
    have HC1 : w1.heap[w.heap.size]? = some (.cells #[.int .i64 A, .int .i64 B] 28 (0, 0)) := (hb1.block _ (by go_size)).trans (by (repeat' first | (with_reducible first | assumption | (apply Ne.symm; assumption) | apply Nat.le_refl | apply Nat.le_add_right | apply zL | apply zRf | apply Wx.box | apply Wx.box4 | apply zWa | apply Wx.drew | apply zWn | apply bx_drew | apply bx_drewN | apply bx_set2 | apply bx_set4 | apply bx_set1) | ((with_reducible apply bx_new); (focus (go_size; done))) | (with_reducible first | apply zOl | apply zFa | apply zDn | apply zDr | apply zAl | apply zSt | refine zVi (by assumption) ?_ ?_) | go_size | omega))
    have HP1 : w1.heap[w.heap.size + 1]? = some (.cells #[.int .i64 x, .int .i64 y, .int .i64 e] 54 (0, 0)) := (hb1.block _ (by go_size)).trans (by (repeat' first | (with_reducible first | assumption | (apply Ne.symm; assumption) | apply Nat.le_refl | apply Nat.le_add_right | apply zL | apply zRf | apply Wx.box | apply Wx.box4 | apply zWa | apply Wx.drew | apply zWn | apply bx_drew | apply bx_drewN | apply bx_set2 | apply bx_set4 | apply bx_set1) | ((with_reducible apply bx_new); (focus (go_size; done))) | (with_reducible first | apply zOl | apply zFa | apply zDn | apply zDr | apply zAl | apply zSt | refine zVi (by assumption) ?_ ?_) | go_size | omega))
    have HB1 : Below w.heap.size w w1 := by
      repeat' first | (with_reducible first | apply zRf | assumption | apply zDn | apply zDr | apply zAl | apply zSt | refine zVi (by assumption) ?_ ?_) | go_size
    go_loopw [29, 8] (fun iv ov wr => BbRel w A B x y e st m iv ov wr) (fun iv _ _ => (m + 1 - intOf iv).toNat)
    case atStart => exact ⟨0, _, rfl, rfl, by omega, fun i h => absurd h (by omega), OwnI.nil _ _ _, HC1, HP1, HB1⟩
    case round =>
      clear HC1 HP1 HB1 hb1
      obtain ⟨k, v, rfl, rfl, hkm, hall, ho, hC, hP, hbw⟩ := hrel
      have HALL := Lib.hid hall
      have HO0 := Lib.hid ho
      have hsw := hbw.size
      clear hall ho
      by_cases hlt : k < m + 1
      · have hltc : (k : Int) < (m : Int) + 1 := by omega
        have TB0 := fun W => TKH.out W k (by omega)
        go_upto_region 7 with (fail)
        refine chk (fun W => Below w.heap.size w W ∧ W.heap[w.heap.size]? = some (.cells #[.int .i64 A, .int .i64 B] 28 (0, 0)) ∧ W.heap[w.heap.size + 1]? = some (.cells #[.int .i64 x, .int .i64 y, .int .i64 e] 54 (0, 0)) ∧ Below wr.heap.size wr W) (by refine ⟨?_, ?_, ?_, ?_⟩ <;> (repeat' first | (with_reducible first | assumption | (apply Ne.symm; assumption) | apply Nat.le_refl | apply Nat.le_add_right | apply zL | apply zRf | apply Wx.box | apply Wx.box4 | apply zWa | apply Wx.drew | apply zWn | apply bx_drew | apply bx_drewN | apply bx_set2 | apply bx_set4 | apply bx_set1) | ((with_reducible apply bx_new); (focus (go_size; done))) | (with_reducible first | apply zOl | apply zFa | apply zDn | apply zDr | apply zAl | apply zSt | refine zVi (by assumption) ?_ ?_) | go_size | omega)) ?_
        rintro w2 ⟨hB2, H_C_2, H_P_2, hbr⟩
        obtain ⟨k_C_2_0, k_C_2_1, f_C_2, l_C_2⟩ := bk2 H_C_2
        replace H_C_2 := Lib.hid H_C_2
        obtain ⟨k_P_2_0, k_P_2_1, k_P_2_2, f_P_2, l_P_2⟩ := bk3 H_P_2
        replace H_P_2 := Lib.hid H_P_2
        clear hC hP
        cases hs : st k with
        | inf =>
          rw [hs] at TB0
          have TB : ∀ W, Calls Try.prog 75 #[.agg #[.int .i64 A, .int .i64 B], .agg #[.int .i64 x, .int .i64 y, .int .i64 e], .int .i64 k] W fun r w' => r = .returned (.tuple #[.int .i64 0, .bool true, .bool true]) ∧ Below W.heap.size W w' := TB0
          have HF := Lib.hid (show ok = false ∧ zs = [] by
            have h5 := SI.out k hs m (by omega)
            rcases H4.out with ⟨_, g1, g2⟩ | ⟨g0, _, _⟩
            · exact ⟨g1, g2⟩
            · rw [h5] at g0; cases g0)
          clear TB0 hs
          go_upto_region 9 with (first | (have _t := tok3; go_at_call 75; (with_reducible refine ((TB _)).mono ?_); rintro e w3 ⟨rfl, hb3⟩; clear tok3 _t; have hz3 := hb3.size; (try simp only [World.size_alloc, World.size_setCell, World.size_drew, World.size_drewN'] at hz3); (try (have kq := cellAt hb3 (w.heap.size) (by go_size); have k3_w_0_0 := kq 0; have k3_w_0_1 := kq 1; clear kq; have f3_w_0 := frozAt hb3 (w.heap.size) (by go_size); simp [go_sem, *] at k3_w_0_0 k3_w_0_1 f3_w_0)); (try have l3_w_0 : w.heap.size < w3.heap.size := by omega); (try (have kq := cellAt hb3 (w.heap.size + 1) (by go_size); have k3_w_1_0 := kq 0; have k3_w_1_1 := kq 1; have k3_w_1_2 := kq 2; clear kq; have f3_w_1 := frozAt hb3 (w.heap.size + 1) (by go_size); simp [go_sem, *] at k3_w_1_0 k3_w_1_1 k3_w_1_2 f3_w_1)); (try have l3_w_1 : w.heap.size + 1 < w3.heap.size := by omega); (try clear k1_w_0_0 k1_w_0_1 f1_w_0); (try clear l1_w_0); (try clear k1_w_1_0 k1_w_1_1 k1_w_1_2 f1_w_1); (try clear l1_w_1); (try clear k2_w_0_0 k2_w_0_1 f2_w_0); (try clear l2_w_0); (try clear k2_w_1_0 k2_w_1_1 k2_w_1_2 f2_w_1); (try clear l2_w_1)))
          go_wp2_with fail
          go_ret2
          refine ⟨.slice none 0 0, w.heap.size, by rw [HF.out.1]; rfl, by rw [HF.out.2]; exact OwnI.nil _ _ _, Nat.le_refl _, ?_⟩
          repeat' first | (with_reducible first | apply zRf | assumption | apply zDn | apply zDr | apply zAl | apply zSt | refine zVi (by assumption) ?_ ?_) | go_size
        | bad =>
          rw [hs] at TB0
          have TB : ∀ W, Calls Try.prog 75 #[.agg #[.int .i64 A, .int .i64 B], .agg #[.int .i64 x, .int .i64 y, .int .i64 e], .int .i64 k] W fun r w' => r = .returned (.tuple #[.int .i64 0, .bool false, .bool false]) ∧ Below W.heap.size W w' := TB0
          have HF := Lib.hid (show ok = false ∧ zs = [] by
            have h5 := SB.out k hs m (by omega)
            rcases H4.out with ⟨_, g1, g2⟩ | ⟨g0, _, _⟩
            · exact ⟨g1, g2⟩
            · rw [h5] at g0; cases g0)
          clear TB0 hs
          go_upto_region 9 with (first | (have _t := tok3; go_at_call 75; (with_reducible refine ((TB _)).mono ?_); rintro e w3 ⟨rfl, hb3⟩; clear tok3 _t; have hz3 := hb3.size; (try simp only [World.size_alloc, World.size_setCell, World.size_drew, World.size_drewN'] at hz3); (try (have kq := cellAt hb3 (w.heap.size) (by go_size); have k3_w_0_0 := kq 0; have k3_w_0_1 := kq 1; clear kq; have f3_w_0 := frozAt hb3 (w.heap.size) (by go_size); simp [go_sem, *] at k3_w_0_0 k3_w_0_1 f3_w_0)); (try have l3_w_0 : w.heap.size < w3.heap.size := by omega); (try (have kq := cellAt hb3 (w.heap.size + 1) (by go_size); have k3_w_1_0 := kq 0; have k3_w_1_1 := kq 1; have k3_w_1_2 := kq 2; clear kq; have f3_w_1 := frozAt hb3 (w.heap.size + 1) (by go_size); simp [go_sem, *] at k3_w_1_0 k3_w_1_1 k3_w_1_2 f3_w_1)); (try have l3_w_1 : w.heap.size + 1 < w3.heap.size := by omega); (try clear k1_w_0_0 k1_w_0_1 f1_w_0); (try clear l1_w_0); (try clear k1_w_1_0 k1_w_1_1 k1_w_1_2 f1_w_1); (try clear l1_w_1); (try clear k2_w_0_0 k2_w_0_1 f2_w_0); (try clear l2_w_0); (try clear k2_w_1_0 k2_w_1_1 k2_w_1_2 f2_w_1); (try clear l2_w_1)))
          go_wp2_with fail
          go_ret2
          refine ⟨.slice none 0 0, w.heap.size, by rw [HF.out.1]; rfl, by rw [HF.out.2]; exact OwnI.nil _ _ _, Nat.le_refl _, ?_⟩
          repeat' first | (with_reducible first | apply zRf | assumption | apply zDn | apply zDr | apply zAl | apply zSt | refine zVi (by assumption) ?_ ?_) | go_size
        | «at» p q =>
          rw [hs] at TB0
          have TB : ∀ W, Calls Try.prog 75 #[.agg #[.int .i64 A, .int .i64 B], .agg #[.int .i64 x, .int .i64 y, .int .i64 e], .int .i64 k] W fun r w' => r = .returned (.tuple #[.int .i64 (bitsZ p q), .bool false, .bool true]) ∧ Below W.heap.size W w' := TB0
          have HBZ := Lib.hid (show baL st (k + 1) = baL st k ++ [bitsZ p q] by simp [baL, hs, bitsOf])
          have HAT := Lib.hid (show atB (st k) = true by rw [hs]; rfl)
          clear TB0 hs
          go_upto_region 10 with (first | (have _t := tok3; go_at_call 75; (with_reducible refine ((TB _)).mono ?_); rintro e w3 ⟨rfl, hb3⟩; clear tok3 _t; have hz3 := hb3.size; (try simp only [World.size_alloc, World.size_setCell, World.size_drew, World.size_drewN'] at hz3); (try (have kq := cellAt hb3 (w.heap.size) (by go_size); have k3_w_0_0 := kq 0; have k3_w_0_1 := kq 1; clear kq; have f3_w_0 := frozAt hb3 (w.heap.size) (by go_size); simp [go_sem, *] at k3_w_0_0 k3_w_0_1 f3_w_0)); (try have l3_w_0 : w.heap.size < w3.heap.size := by omega); (try (have kq := cellAt hb3 (w.heap.size + 1) (by go_size); have k3_w_1_0 := kq 0; have k3_w_1_1 := kq 1; have k3_w_1_2 := kq 2; clear kq; have f3_w_1 := frozAt hb3 (w.heap.size + 1) (by go_size); simp [go_sem, *] at k3_w_1_0 k3_w_1_1 k3_w_1_2 f3_w_1)); (try have l3_w_1 : w.heap.size + 1 < w3.heap.size := by omega); (try clear k1_w_0_0 k1_w_0_1 f1_w_0); (try clear l1_w_0); (try clear k1_w_1_0 k1_w_1_1 k1_w_1_2 f1_w_1); (try clear l1_w_1); (try clear k2_w_0_0 k2_w_0_1 f2_w_0); (try clear l2_w_0); (try clear k2_w_1_0 k2_w_1_1 k2_w_1_2 f2_w_1); (try clear l2_w_1)))
          have H_C_3 := (hb3.block (w.heap.size) (blk_lt' H_C_2.out)).trans H_C_2.out
          clear k_C_2_0 k_C_2_1 f_C_2 H_C_2
          obtain ⟨k_C_3_0, k_C_3_1, f_C_3, l_C_3⟩ := bk2 H_C_3
          replace H_C_3 := Lib.hid H_C_3
          have H_P_3 := (hb3.block (w.heap.size + 1) (blk_lt' H_P_2.out)).trans H_P_2.out
          clear k_P_2_0 k_P_2_1 k_P_2_2 f_P_2 H_P_2
          obtain ⟨k_P_3_0, k_P_3_1, k_P_3_2, f_P_3, l_P_3⟩ := bk3 H_P_3
          replace H_P_3 := Lib.hid H_P_3
          have hB3 : Below w.heap.size w w3 := below_via hb3 (by assumption) (by go_size)
          have hbr3 := below_via hb3 hbr (by have := hbr.size; omega)
          replace H_C_3 := H_C_3.out
          replace H_P_3 := H_P_3.out
          refine chk (fun W => Below w.heap.size w W ∧ W.heap[w.heap.size]? = some (.cells #[.int .i64 A, .int .i64 B] 28 (0, 0)) ∧ W.heap[w.heap.size + 1]? = some (.cells #[.int .i64 x, .int .i64 y, .int .i64 e] 54 (0, 0)) ∧ Below wr.heap.size wr W) (by refine ⟨?_, ?_, ?_, ?_⟩ <;> (repeat' first | (with_reducible first | assumption | (apply Ne.symm; assumption) | apply Nat.le_refl | apply Nat.le_add_right | apply zL | apply zRf | apply Wx.box | apply Wx.box4 | apply zWa | apply Wx.drew | apply zWn | apply bx_drew | apply bx_drewN | apply bx_set2 | apply bx_set4 | apply bx_set1) | ((with_reducible apply bx_new); (focus (go_size; done))) | (with_reducible first | apply zOl | apply zFa | apply zDn | apply zDr | apply zAl | apply zSt | refine zVi (by assumption) ?_ ?_) | go_size | omega)) ?_
          clear k_C_3_0 k_C_3_1 f_C_3 H_C_3
          clear k_P_3_0 k_P_3_1 k_P_3_2 f_P_3 H_P_3
          clear hB3
          rintro w4 ⟨hB4, H_C_4, H_P_4, hbr4⟩
          obtain ⟨k_C_4_0, k_C_4_1, f_C_4, l_C_4⟩ := bk2 H_C_4
          replace H_C_4 := Lib.hid H_C_4
          obtain ⟨k_P_4_0, k_P_4_1, k_P_4_2, f_P_4, l_P_4⟩ := bk3 H_P_4
          replace H_P_4 := Lib.hid H_P_4
          clear hbr3 hbr
          have ho4 := HO0.out.below hbr4
          unfold OwnI at ho4
          rw [baL_len] at ho4
          have HO := Lib.hid ho4
          clear ho4 TB
          go_wp2_with (first | (at_builtin; refine wpList_append_own_at _ rfl _ _ 32 rfl (w.heap.size + 2) 3 i0 (.int .i64 0) 1 8 Try.underlying32 hi iz0 iz1 iz2 rfl (by decide) v k _ rfl (HO.out.alloc _) ⟨w4.heap.size, 0, none⟩ 1 1 [_] rfl rfl (cell_one_new _ _ _) (by simp [Value.oneCell']) (by unfold maxLen; omega) (by omega) (by simp; omega) ?_; intro v1 w5 hv1 hg1 _ hat))
          go_roundw
          case rel =>
            refine ⟨k + 1, v1, by go_num, rfl, by omega, fun i hi => ?_, ?_, ?_, ?_, ?_⟩
            · by_cases h : i < k
              · exact HALL.out i h
              · obtain rfl : i = k := by omega
                exact HAT.out
            · unfold OwnI
              rw [HBZ.out, ints_append, ints_one]
              simpa [baL_len] using hv1
            · have q1 := H_C_4.out
              exact (hg1.block _ (Nat.lt_of_lt_of_le l_C_4 (by simp)) (fun h => by have := (HO.out.lt _ h.symm).1; omega)).trans (bx_old q1 _)
            · have q1 := H_P_4.out
              exact (hg1.block _ (Nat.lt_of_lt_of_le l_P_4 (by simp)) (fun h => by have := (HO.out.lt _ h.symm).1; omega)).trans (bx_old q1 _)
            · exact (hB4.alloc (by have := hB4.size; omega) _).grown hg1 (by simp; have := hB4.size; omega) (fun j h => by have := (HO.out.lt _ h).1; omega)
          case measure => simp [intOf]; omega
      · obtain rfl : k = m + 1 := by omega
        have HF := Lib.hid (show ok = true ∧ zs = baL st (m + 1) by
          have h5 := HALL.out m (by omega)
          rcases H4.out with ⟨g0, _, _⟩ | ⟨_, g1, g2⟩
          · rw [h5] at g0; cases g0
          · exact ⟨g1, g2⟩)
        clear hC hP
        go_wp2_with fail
        go_ret2
        refine ⟨_, w.heap.size + 2, by rw [HF.out.1]; rfl, by rw [HF.out.2]; exact HO0.out, by omega, ?_⟩
        repeat' first | (with_reducible first | apply zRf | assumption | apply zDn | apply zDr | apply zAl | apply zSt | refine zVi (by assumption) ?_ ?_) | go_size
end
end Go.Proofs.Ytfbegjiebahdcaa
