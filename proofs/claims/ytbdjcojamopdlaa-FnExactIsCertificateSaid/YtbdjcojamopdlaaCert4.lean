/- FnExactIsCertificate: the walk of the law. -/
import Derived.Test.YtbdjcojamopdlaaCert3
namespace Go.Proofs.Ytbdjcojamopdlaa
open Go.RowKit
set_option linter.unusedVariables false
set_option maxHeartbeats 1000000
set_option maxRecDepth 20000
set_option linter.unusedSimpArgs false
attribute [local go_sem] openAt openUpon
theorem FnExactIsCertificate_any (A B n d : Int) (a : Option Addr) (ln c : Nat) (zs : List Int) (w : World) (h : Px w a ln c zs) : Calls Try.prog 3 #[.agg #[.int .i64 A, .int .i64 B, .slice a ln c, .int .i64 n, .int .i64 d]] w fun e w' => e = .returned (.bool true) ∧ Below w.heap.size w w' := by
  have hlm : ln ≤ maxLen := Nat.le_trans h.cap h.max
  have T1 := fun W : World => Lib.hid (szCertificate_any A B n d 1048576 a ln c W hlm (by omega) (by omega))
  by_cases hl : (1048576 : Int) - ln < 0
  · rw [if_pos hl] at T1
    clear hl hlm
    have tok1 : True := trivial
    have tok2 : True := trivial
    have tok3 : True := trivial
    have tok4 : True := trivial
    have tok5 : True := trivial
    go_enter Try.func3, Try.ntmps3
    go_wp2_with (first | (have _t := tok1; go_at_call 8; (with_reducible refine ((T1 _).out).mono ?_); rintro e w1 ⟨rfl, hb1⟩; clear tok1 _t; have hz1 := hb1.size; (try simp only [World.size_alloc, World.size_setCell, World.size_drew, World.size_drewN'] at hz1); (try (have k1_w_0_0 := cellAt hb1 (w.heap.size) (by go_size) 0; simp [go_sem, *] at k1_w_0_0)); (try (have k1_w_0_1 := cellAt hb1 (w.heap.size) (by go_size) 1; simp [go_sem, *] at k1_w_0_1)); (try (have k1_w_0_2 := cellAt hb1 (w.heap.size) (by go_size) 2; simp [go_sem, *] at k1_w_0_2)); (try (have k1_w_0_3 := cellAt hb1 (w.heap.size) (by go_size) 3; simp [go_sem, *] at k1_w_0_3)); (try (have k1_w_0_4 := cellAt hb1 (w.heap.size) (by go_size) 4; simp [go_sem, *] at k1_w_0_4)); (try (have f1_w_0 := frozAt hb1 (w.heap.size) (by go_size); simp [go_sem, *] at f1_w_0)); (try have l1_w_0 : w.heap.size < w1.heap.size := by omega)) | (have _t := tok2; go_at_call 10; refine (toCertificate_any A B n d a ln c zs _ (h.below (by repeat' first | (with_reducible exact Below.refl _ _) | (with_reducible assumption) | (with_reducible refine below_drewN ?_ _) | (with_reducible refine Below.drew ?_) | (with_reducible refine Below.alloc ?_ ?_ _) | (with_reducible refine Below.setCell ?_ ?_ _) | (with_reducible refine below_via (by assumption) ?_ ?_) | go_size)) hn).mono ?_; rintro e w2 ⟨g2, rfl, hp2, hg2, hb2⟩; clear tok2 _t; have hz2 := hb2.size; (try simp only [World.size_alloc, World.size_setCell, World.size_drew, World.size_drewN'] at hz2); (try (have k2_w_0_0 := cellAt hb2 (w.heap.size) (by go_size) 0; simp [go_sem, *] at k2_w_0_0)); (try (have k2_w_0_1 := cellAt hb2 (w.heap.size) (by go_size) 1; simp [go_sem, *] at k2_w_0_1)); (try (have k2_w_0_2 := cellAt hb2 (w.heap.size) (by go_size) 2; simp [go_sem, *] at k2_w_0_2)); (try (have k2_w_0_3 := cellAt hb2 (w.heap.size) (by go_size) 3; simp [go_sem, *] at k2_w_0_3)); (try (have k2_w_0_4 := cellAt hb2 (w.heap.size) (by go_size) 4; simp [go_sem, *] at k2_w_0_4)); (try (have f2_w_0 := frozAt hb2 (w.heap.size) (by go_size); simp [go_sem, *] at f2_w_0)); (try have l2_w_0 : w.heap.size < w2.heap.size := by omega); (try clear k1_w_0_0); (try clear k1_w_0_1); (try clear k1_w_0_2); (try clear k1_w_0_3); (try clear k1_w_0_4); (try clear f1_w_0); (try clear l1_w_0)) | (have _t := tok3; go_at_call 9; (with_reducible refine ((T3 _ _ _ _ hp2)).mono ?_); rintro e w3 ⟨rfl, hb3⟩; clear tok3 _t; have hz3 := hb3.size; (try simp only [World.size_alloc, World.size_setCell, World.size_drew, World.size_drewN'] at hz3); (try (have k3_w_0_0 := cellAt hb3 (w.heap.size) (by go_size) 0; simp [go_sem, *] at k3_w_0_0)); (try (have k3_w_0_1 := cellAt hb3 (w.heap.size) (by go_size) 1; simp [go_sem, *] at k3_w_0_1)); (try (have k3_w_0_2 := cellAt hb3 (w.heap.size) (by go_size) 2; simp [go_sem, *] at k3_w_0_2)); (try (have k3_w_0_3 := cellAt hb3 (w.heap.size) (by go_size) 3; simp [go_sem, *] at k3_w_0_3)); (try (have k3_w_0_4 := cellAt hb3 (w.heap.size) (by go_size) 4; simp [go_sem, *] at k3_w_0_4)); (try (have f3_w_0 := frozAt hb3 (w.heap.size) (by go_size); simp [go_sem, *] at f3_w_0)); (try have l3_w_0 : w.heap.size < w3.heap.size := by omega); (try clear k1_w_0_0); (try clear k1_w_0_1); (try clear k1_w_0_2); (try clear k1_w_0_3); (try clear k1_w_0_4); (try clear f1_w_0); (try clear l1_w_0); (try clear k2_w_0_0); (try clear k2_w_0_1); (try clear k2_w_0_2); (try clear k2_w_0_3); (try clear k2_w_0_4); (try clear f2_w_0); (try clear l2_w_0)) | (have _t := tok4; go_at_call 10; refine (toCertificate_any A B n d a ln c zs _ (h.below (by repeat' first | (with_reducible exact Below.refl _ _) | (with_reducible assumption) | (with_reducible refine below_drewN ?_ _) | (with_reducible refine Below.drew ?_) | (with_reducible refine Below.alloc ?_ ?_ _) | (with_reducible refine Below.setCell ?_ ?_ _) | (with_reducible refine below_via (by assumption) ?_ ?_) | go_size)) hn).mono ?_; rintro e w4 ⟨g4, rfl, hp4, hg4, hb4⟩; clear tok4 _t; have hz4 := hb4.size; (try simp only [World.size_alloc, World.size_setCell, World.size_drew, World.size_drewN'] at hz4); (try (have k4_w_0_0 := cellAt hb4 (w.heap.size) (by go_size) 0; simp [go_sem, *] at k4_w_0_0)); (try (have k4_w_0_1 := cellAt hb4 (w.heap.size) (by go_size) 1; simp [go_sem, *] at k4_w_0_1)); (try (have k4_w_0_2 := cellAt hb4 (w.heap.size) (by go_size) 2; simp [go_sem, *] at k4_w_0_2)); (try (have k4_w_0_3 := cellAt hb4 (w.heap.size) (by go_size) 3; simp [go_sem, *] at k4_w_0_3)); (try (have k4_w_0_4 := cellAt hb4 (w.heap.size) (by go_size) 4; simp [go_sem, *] at k4_w_0_4)); (try (have f4_w_0 := frozAt hb4 (w.heap.size) (by go_size); simp [go_sem, *] at f4_w_0)); (try have l4_w_0 : w.heap.size < w4.heap.size := by omega); (try clear k1_w_0_0); (try clear k1_w_0_1); (try clear k1_w_0_2); (try clear k1_w_0_3); (try clear k1_w_0_4); (try clear f1_w_0); (try clear l1_w_0); (try clear k2_w_0_0); (try clear k2_w_0_1); (try clear k2_w_0_2); (try clear k2_w_0_3); (try clear k2_w_0_4); (try clear f2_w_0); (try clear l2_w_0); (try clear k3_w_0_0); (try clear k3_w_0_1); (try clear k3_w_0_2); (try clear k3_w_0_3); (try clear k3_w_0_4); (try clear f3_w_0); (try clear l3_w_0)) | (have _t := tok5; go_at_call 11; (with_reducible refine ((T5 _ _ _ _ (hp4.alloc _))).mono ?_); rintro e w5 ⟨rfl, hb5⟩; clear tok5 _t; have hz5 := hb5.size; (try simp only [World.size_alloc, World.size_setCell, World.size_drew, World.size_drewN'] at hz5); (try (have k5_w_0_0 := cellAt hb5 (w.heap.size) (by go_size) 0; simp [go_sem, *] at k5_w_0_0)); (try (have k5_w_0_1 := cellAt hb5 (w.heap.size) (by go_size) 1; simp [go_sem, *] at k5_w_0_1)); (try (have k5_w_0_2 := cellAt hb5 (w.heap.size) (by go_size) 2; simp [go_sem, *] at k5_w_0_2)); (try (have k5_w_0_3 := cellAt hb5 (w.heap.size) (by go_size) 3; simp [go_sem, *] at k5_w_0_3)); (try (have k5_w_0_4 := cellAt hb5 (w.heap.size) (by go_size) 4; simp [go_sem, *] at k5_w_0_4)); (try (have f5_w_0 := frozAt hb5 (w.heap.size) (by go_size); simp [go_sem, *] at f5_w_0)); (try have l5_w_0 : w.heap.size < w5.heap.size := by omega); (try (have k5_w4_0_0 := cellAt hb5 (w4.heap.size) (by go_size) 0; simp [go_sem, *] at k5_w4_0_0)); (try (have k5_w4_0_1 := cellAt hb5 (w4.heap.size) (by go_size) 1; simp [go_sem, *] at k5_w4_0_1)); (try (have k5_w4_0_2 := cellAt hb5 (w4.heap.size) (by go_size) 2; simp [go_sem, *] at k5_w4_0_2)); (try (have k5_w4_0_3 := cellAt hb5 (w4.heap.size) (by go_size) 3; simp [go_sem, *] at k5_w4_0_3)); (try (have k5_w4_0_4 := cellAt hb5 (w4.heap.size) (by go_size) 4; simp [go_sem, *] at k5_w4_0_4)); (try (have f5_w4_0 := frozAt hb5 (w4.heap.size) (by go_size); simp [go_sem, *] at f5_w4_0)); (try have l5_w4_0 : w4.heap.size < w5.heap.size := by omega); (try clear k1_w_0_0); (try clear k1_w_0_1); (try clear k1_w_0_2); (try clear k1_w_0_3); (try clear k1_w_0_4); (try clear f1_w_0); (try clear l1_w_0); (try clear k2_w_0_0); (try clear k2_w_0_1); (try clear k2_w_0_2); (try clear k2_w_0_3); (try clear k2_w_0_4); (try clear f2_w_0); (try clear l2_w_0); (try clear k3_w_0_0); (try clear k3_w_0_1); (try clear k3_w_0_2); (try clear k3_w_0_3); (try clear k3_w_0_4); (try clear f3_w_0); (try clear l3_w_0); (try clear k4_w_0_0); (try clear k4_w_0_1); (try clear k4_w_0_2); (try clear k4_w_0_3); (try clear k4_w_0_4); (try clear f4_w_0); (try clear l4_w_0)))
    go_ret
    refine ⟨rfl, ?_⟩
    repeat' first | (with_reducible exact Below.refl _ _) | (with_reducible assumption) | (with_reducible refine below_drewN ?_ _) | (with_reducible refine Below.drew ?_) | (with_reducible refine Below.alloc ?_ ?_ _) | (with_reducible refine Below.setCell ?_ ?_ _) | (with_reducible refine below_via (by assumption) ?_ ?_) | go_size
  · rw [if_neg hl] at T1
    have hn : ln ≤ 1048576 := by omega
    have T3 := fun (W : World) (a : Option Addr) (ln c : Nat) (h : Px W a ln c zs) => sIsCertificate_any A B n d a ln c zs W h
    have T5 := fun (W : World) (a : Option Addr) (ln c : Nat) (h : Px W a ln c zs) => IsCertificate_any A B n d a ln c zs W h
    generalize hv : (1048576 : Int) - ln = v at *
    clear hv hlm
    have tok1 : True := trivial
    have tok2 : True := trivial
    have tok3 : True := trivial
    have tok4 : True := trivial
    have tok5 : True := trivial
    go_enter Try.func3, Try.ntmps3
    go_wp2_with (first | (have _t := tok1; go_at_call 8; (with_reducible refine ((T1 _).out).mono ?_); rintro e w1 ⟨rfl, hb1⟩; clear tok1 _t; have hz1 := hb1.size; (try simp only [World.size_alloc, World.size_setCell, World.size_drew, World.size_drewN'] at hz1); (try (have k1_w_0_0 := cellAt hb1 (w.heap.size) (by go_size) 0; simp [go_sem, *] at k1_w_0_0)); (try (have k1_w_0_1 := cellAt hb1 (w.heap.size) (by go_size) 1; simp [go_sem, *] at k1_w_0_1)); (try (have k1_w_0_2 := cellAt hb1 (w.heap.size) (by go_size) 2; simp [go_sem, *] at k1_w_0_2)); (try (have k1_w_0_3 := cellAt hb1 (w.heap.size) (by go_size) 3; simp [go_sem, *] at k1_w_0_3)); (try (have k1_w_0_4 := cellAt hb1 (w.heap.size) (by go_size) 4; simp [go_sem, *] at k1_w_0_4)); (try (have f1_w_0 := frozAt hb1 (w.heap.size) (by go_size); simp [go_sem, *] at f1_w_0)); (try have l1_w_0 : w.heap.size < w1.heap.size := by omega)) | (have _t := tok2; go_at_call 10; refine (toCertificate_any A B n d a ln c zs _ (h.below (by repeat' first | (with_reducible exact Below.refl _ _) | (with_reducible assumption) | (with_reducible refine below_drewN ?_ _) | (with_reducible refine Below.drew ?_) | (with_reducible refine Below.alloc ?_ ?_ _) | (with_reducible refine Below.setCell ?_ ?_ _) | (with_reducible refine below_via (by assumption) ?_ ?_) | go_size)) hn).mono ?_; rintro e w2 ⟨g2, rfl, hp2, hg2, hb2⟩; clear tok2 _t; have hz2 := hb2.size; (try simp only [World.size_alloc, World.size_setCell, World.size_drew, World.size_drewN'] at hz2); (try (have k2_w_0_0 := cellAt hb2 (w.heap.size) (by go_size) 0; simp [go_sem, *] at k2_w_0_0)); (try (have k2_w_0_1 := cellAt hb2 (w.heap.size) (by go_size) 1; simp [go_sem, *] at k2_w_0_1)); (try (have k2_w_0_2 := cellAt hb2 (w.heap.size) (by go_size) 2; simp [go_sem, *] at k2_w_0_2)); (try (have k2_w_0_3 := cellAt hb2 (w.heap.size) (by go_size) 3; simp [go_sem, *] at k2_w_0_3)); (try (have k2_w_0_4 := cellAt hb2 (w.heap.size) (by go_size) 4; simp [go_sem, *] at k2_w_0_4)); (try (have f2_w_0 := frozAt hb2 (w.heap.size) (by go_size); simp [go_sem, *] at f2_w_0)); (try have l2_w_0 : w.heap.size < w2.heap.size := by omega); (try clear k1_w_0_0); (try clear k1_w_0_1); (try clear k1_w_0_2); (try clear k1_w_0_3); (try clear k1_w_0_4); (try clear f1_w_0); (try clear l1_w_0)) | (have _t := tok3; go_at_call 9; (with_reducible refine ((T3 _ _ _ _ hp2)).mono ?_); rintro e w3 ⟨rfl, hb3⟩; clear tok3 _t; have hz3 := hb3.size; (try simp only [World.size_alloc, World.size_setCell, World.size_drew, World.size_drewN'] at hz3); (try (have k3_w_0_0 := cellAt hb3 (w.heap.size) (by go_size) 0; simp [go_sem, *] at k3_w_0_0)); (try (have k3_w_0_1 := cellAt hb3 (w.heap.size) (by go_size) 1; simp [go_sem, *] at k3_w_0_1)); (try (have k3_w_0_2 := cellAt hb3 (w.heap.size) (by go_size) 2; simp [go_sem, *] at k3_w_0_2)); (try (have k3_w_0_3 := cellAt hb3 (w.heap.size) (by go_size) 3; simp [go_sem, *] at k3_w_0_3)); (try (have k3_w_0_4 := cellAt hb3 (w.heap.size) (by go_size) 4; simp [go_sem, *] at k3_w_0_4)); (try (have f3_w_0 := frozAt hb3 (w.heap.size) (by go_size); simp [go_sem, *] at f3_w_0)); (try have l3_w_0 : w.heap.size < w3.heap.size := by omega); (try clear k1_w_0_0); (try clear k1_w_0_1); (try clear k1_w_0_2); (try clear k1_w_0_3); (try clear k1_w_0_4); (try clear f1_w_0); (try clear l1_w_0); (try clear k2_w_0_0); (try clear k2_w_0_1); (try clear k2_w_0_2); (try clear k2_w_0_3); (try clear k2_w_0_4); (try clear f2_w_0); (try clear l2_w_0)) | (have _t := tok4; go_at_call 10; refine (toCertificate_any A B n d a ln c zs _ (h.below (by repeat' first | (with_reducible exact Below.refl _ _) | (with_reducible assumption) | (with_reducible refine below_drewN ?_ _) | (with_reducible refine Below.drew ?_) | (with_reducible refine Below.alloc ?_ ?_ _) | (with_reducible refine Below.setCell ?_ ?_ _) | (with_reducible refine below_via (by assumption) ?_ ?_) | go_size)) hn).mono ?_; rintro e w4 ⟨g4, rfl, hp4, hg4, hb4⟩; clear tok4 _t; have hz4 := hb4.size; (try simp only [World.size_alloc, World.size_setCell, World.size_drew, World.size_drewN'] at hz4); (try (have k4_w_0_0 := cellAt hb4 (w.heap.size) (by go_size) 0; simp [go_sem, *] at k4_w_0_0)); (try (have k4_w_0_1 := cellAt hb4 (w.heap.size) (by go_size) 1; simp [go_sem, *] at k4_w_0_1)); (try (have k4_w_0_2 := cellAt hb4 (w.heap.size) (by go_size) 2; simp [go_sem, *] at k4_w_0_2)); (try (have k4_w_0_3 := cellAt hb4 (w.heap.size) (by go_size) 3; simp [go_sem, *] at k4_w_0_3)); (try (have k4_w_0_4 := cellAt hb4 (w.heap.size) (by go_size) 4; simp [go_sem, *] at k4_w_0_4)); (try (have f4_w_0 := frozAt hb4 (w.heap.size) (by go_size); simp [go_sem, *] at f4_w_0)); (try have l4_w_0 : w.heap.size < w4.heap.size := by omega); (try clear k1_w_0_0); (try clear k1_w_0_1); (try clear k1_w_0_2); (try clear k1_w_0_3); (try clear k1_w_0_4); (try clear f1_w_0); (try clear l1_w_0); (try clear k2_w_0_0); (try clear k2_w_0_1); (try clear k2_w_0_2); (try clear k2_w_0_3); (try clear k2_w_0_4); (try clear f2_w_0); (try clear l2_w_0); (try clear k3_w_0_0); (try clear k3_w_0_1); (try clear k3_w_0_2); (try clear k3_w_0_3); (try clear k3_w_0_4); (try clear f3_w_0); (try clear l3_w_0)) | (have _t := tok5; go_at_call 11; (with_reducible refine ((T5 _ _ _ _ (hp4.alloc _))).mono ?_); rintro e w5 ⟨rfl, hb5⟩; clear tok5 _t; have hz5 := hb5.size; (try simp only [World.size_alloc, World.size_setCell, World.size_drew, World.size_drewN'] at hz5); (try (have k5_w_0_0 := cellAt hb5 (w.heap.size) (by go_size) 0; simp [go_sem, *] at k5_w_0_0)); (try (have k5_w_0_1 := cellAt hb5 (w.heap.size) (by go_size) 1; simp [go_sem, *] at k5_w_0_1)); (try (have k5_w_0_2 := cellAt hb5 (w.heap.size) (by go_size) 2; simp [go_sem, *] at k5_w_0_2)); (try (have k5_w_0_3 := cellAt hb5 (w.heap.size) (by go_size) 3; simp [go_sem, *] at k5_w_0_3)); (try (have k5_w_0_4 := cellAt hb5 (w.heap.size) (by go_size) 4; simp [go_sem, *] at k5_w_0_4)); (try (have f5_w_0 := frozAt hb5 (w.heap.size) (by go_size); simp [go_sem, *] at f5_w_0)); (try have l5_w_0 : w.heap.size < w5.heap.size := by omega); (try (have k5_w4_0_0 := cellAt hb5 (w4.heap.size) (by go_size) 0; simp [go_sem, *] at k5_w4_0_0)); (try (have k5_w4_0_1 := cellAt hb5 (w4.heap.size) (by go_size) 1; simp [go_sem, *] at k5_w4_0_1)); (try (have k5_w4_0_2 := cellAt hb5 (w4.heap.size) (by go_size) 2; simp [go_sem, *] at k5_w4_0_2)); (try (have k5_w4_0_3 := cellAt hb5 (w4.heap.size) (by go_size) 3; simp [go_sem, *] at k5_w4_0_3)); (try (have k5_w4_0_4 := cellAt hb5 (w4.heap.size) (by go_size) 4; simp [go_sem, *] at k5_w4_0_4)); (try (have f5_w4_0 := frozAt hb5 (w4.heap.size) (by go_size); simp [go_sem, *] at f5_w4_0)); (try have l5_w4_0 : w4.heap.size < w5.heap.size := by omega); (try clear k1_w_0_0); (try clear k1_w_0_1); (try clear k1_w_0_2); (try clear k1_w_0_3); (try clear k1_w_0_4); (try clear f1_w_0); (try clear l1_w_0); (try clear k2_w_0_0); (try clear k2_w_0_1); (try clear k2_w_0_2); (try clear k2_w_0_3); (try clear k2_w_0_4); (try clear f2_w_0); (try clear l2_w_0); (try clear k3_w_0_0); (try clear k3_w_0_1); (try clear k3_w_0_2); (try clear k3_w_0_3); (try clear k3_w_0_4); (try clear f3_w_0); (try clear l3_w_0); (try clear k4_w_0_0); (try clear k4_w_0_1); (try clear k4_w_0_2); (try clear k4_w_0_3); (try clear k4_w_0_4); (try clear f4_w_0); (try clear l4_w_0)))
    refine wp_open (n := 4) (by kernel_rfl) (by kernel_rfl) (by kernel_rfl) (by kernel_rfl) ?_
    simp only [List.take_succ_cons, List.take_zero]
    apply wpS_quiet
    · intro γ W hW hp
      have hs := hW.size
      (try simp only [World.size_alloc, World.size_setCell, World.size_drew, World.size_drewN'] at hs)
      try (have kx_w_0_0 := fun x : Over W => (cellAt x.lies (w.heap.size) (by omega) 0).trans (cellAt hW (w.heap.size) (by go_size) 0); simp [go_sem, *] at kx_w_0_0)
      try (have kx_w_0_1 := fun x : Over W => (cellAt x.lies (w.heap.size) (by omega) 1).trans (cellAt hW (w.heap.size) (by go_size) 1); simp [go_sem, *] at kx_w_0_1)
      try (have kx_w_0_2 := fun x : Over W => (cellAt x.lies (w.heap.size) (by omega) 2).trans (cellAt hW (w.heap.size) (by go_size) 2); simp [go_sem, *] at kx_w_0_2)
      try (have kx_w_0_3 := fun x : Over W => (cellAt x.lies (w.heap.size) (by omega) 3).trans (cellAt hW (w.heap.size) (by go_size) 3); simp [go_sem, *] at kx_w_0_3)
      try (have kx_w_0_4 := fun x : Over W => (cellAt x.lies (w.heap.size) (by omega) 4).trans (cellAt hW (w.heap.size) (by go_size) 4); simp [go_sem, *] at kx_w_0_4)
      try (have kx_w4_0_0 := fun x : Over W => (cellAt x.lies (w4.heap.size) (by omega) 0).trans (cellAt hW (w4.heap.size) (by go_size) 0); simp [go_sem, *] at kx_w4_0_0)
      try (have kx_w4_0_1 := fun x : Over W => (cellAt x.lies (w4.heap.size) (by omega) 1).trans (cellAt hW (w4.heap.size) (by go_size) 1); simp [go_sem, *] at kx_w4_0_1)
      try (have kx_w4_0_2 := fun x : Over W => (cellAt x.lies (w4.heap.size) (by omega) 2).trans (cellAt hW (w4.heap.size) (by go_size) 2); simp [go_sem, *] at kx_w4_0_2)
      try (have kx_w4_0_3 := fun x : Over W => (cellAt x.lies (w4.heap.size) (by omega) 3).trans (cellAt hW (w4.heap.size) (by go_size) 3); simp [go_sem, *] at kx_w4_0_3)
      try (have kx_w4_0_4 := fun x : Over W => (cellAt x.lies (w4.heap.size) (by omega) 4).trans (cellAt hW (w4.heap.size) (by go_size) 4); simp [go_sem, *] at kx_w4_0_4)
      clear hW hp
      refine ⟨rfl, ?_⟩
      go_big_quiet_op
      first | exact rfl
    · exact locS_const _
    try simp only [Act.put, List.setIfInBounds_toArray, List.set_cons_succ, List.set_cons_zero, Nat.reduceAdd]
    apply wpS_quiet
    · intro γ W hW hp
      have hs := hW.size
      (try simp only [World.size_alloc, World.size_setCell, World.size_drew, World.size_drewN'] at hs)
      try (have kx_w_0_0 := fun x : Over W => (cellAt x.lies (w.heap.size) (by omega) 0).trans (cellAt hW (w.heap.size) (by go_size) 0); simp [go_sem, *] at kx_w_0_0)
      try (have kx_w_0_1 := fun x : Over W => (cellAt x.lies (w.heap.size) (by omega) 1).trans (cellAt hW (w.heap.size) (by go_size) 1); simp [go_sem, *] at kx_w_0_1)
      try (have kx_w_0_2 := fun x : Over W => (cellAt x.lies (w.heap.size) (by omega) 2).trans (cellAt hW (w.heap.size) (by go_size) 2); simp [go_sem, *] at kx_w_0_2)
      try (have kx_w_0_3 := fun x : Over W => (cellAt x.lies (w.heap.size) (by omega) 3).trans (cellAt hW (w.heap.size) (by go_size) 3); simp [go_sem, *] at kx_w_0_3)
      try (have kx_w_0_4 := fun x : Over W => (cellAt x.lies (w.heap.size) (by omega) 4).trans (cellAt hW (w.heap.size) (by go_size) 4); simp [go_sem, *] at kx_w_0_4)
      try (have kx_w4_0_0 := fun x : Over W => (cellAt x.lies (w4.heap.size) (by omega) 0).trans (cellAt hW (w4.heap.size) (by go_size) 0); simp [go_sem, *] at kx_w4_0_0)
      try (have kx_w4_0_1 := fun x : Over W => (cellAt x.lies (w4.heap.size) (by omega) 1).trans (cellAt hW (w4.heap.size) (by go_size) 1); simp [go_sem, *] at kx_w4_0_1)
      try (have kx_w4_0_2 := fun x : Over W => (cellAt x.lies (w4.heap.size) (by omega) 2).trans (cellAt hW (w4.heap.size) (by go_size) 2); simp [go_sem, *] at kx_w4_0_2)
      try (have kx_w4_0_3 := fun x : Over W => (cellAt x.lies (w4.heap.size) (by omega) 3).trans (cellAt hW (w4.heap.size) (by go_size) 3); simp [go_sem, *] at kx_w4_0_3)
      try (have kx_w4_0_4 := fun x : Over W => (cellAt x.lies (w4.heap.size) (by omega) 4).trans (cellAt hW (w4.heap.size) (by go_size) 4); simp [go_sem, *] at kx_w4_0_4)
      clear hW hp
      refine ⟨rfl, ?_⟩
      go_big_quiet_op
      first | exact rfl
    · exact locS_const _
    try simp only [Act.put, List.setIfInBounds_toArray, List.set_cons_succ, List.set_cons_zero, Nat.reduceAdd]
    apply wpS_open (openCert A B n d ln zs)
    · intro γ W hW hp
      have kc_w_0 := cellAt hW (w.heap.size) (by go_size)
      try simp [go_sem, *] at kc_w_0
      have kc_w4_0 := cellAt hW (w4.heap.size) (by go_size)
      try simp [go_sem, *] at kc_w4_0
      refine ⟨rfl, ?_⟩
      go_simp
      exact (toCertificate_any A B n d a ln c zs W ((h.below (by repeat' first | (with_reducible exact Below.refl _ _) | (with_reducible assumption) | (with_reducible refine below_drewN ?_ _) | (with_reducible refine Below.drew ?_) | (with_reducible refine Below.alloc ?_ ?_ _) | (with_reducible refine Below.setCell ?_ ?_ _) | (with_reducible refine below_via (by assumption) ?_ ?_) | go_size)).below hW) hn).mono fun e w' ⟨g, he, hp, _, hb⟩ => ⟨_, he, ⟨_, _, rfl, hp⟩, hb⟩
    try simp only [Act.put, List.setIfInBounds_toArray, List.set_cons_succ, List.set_cons_zero, Nat.reduceAdd]
    apply wpS_quiet
    · intro γ W hW hp
      have hp_2 := hp _ (List.mem_append_right _ (List.mem_singleton.2 rfl)) (by kernel_rfl)
      dsimp only at hp_2
      refine ⟨rfl, ?_⟩
      go_big_quiet_op
      apply Exists.intro
      refine ⟨fun x => ?_, ?_⟩
      · (first | (go_at_call 12; exact draw_of _ (eqCert_open A B n d _ _ _ zs _ x.w (((hp4.below (by repeat' first | (with_reducible exact Below.refl _ _) | (with_reducible assumption) | (with_reducible refine below_drewN ?_ _) | (with_reducible refine Below.drew ?_) | (with_reducible refine Below.alloc ?_ ?_ _) | (with_reducible refine Below.setCell ?_ ?_ _) | (with_reducible refine below_via (by assumption) ?_ ?_) | go_size)).below hW).below x.lies) ((openCert A B n d ln zs).keep _ _ _ hp_2 x.lies))))
      exact rfl
    · intro γ k g hk
      have h_2 : updV γ k g 2 = γ 2 := updV_other γ g (fun e => by subst e; exact absurd hk (by rw [show reachB .any _ 100 3 2 = true from by kernel_rfl]; simp))
      first | rfl | simp only [h_2]
    try simp only [Act.put, List.setIfInBounds_toArray, List.set_cons_succ, List.set_cons_zero, Nat.reduceAdd]
    apply wpS_end
    intro γ w6 hb6 hG6
    have hg6_2 := hG6 _ (List.mem_append_right _ (List.mem_singleton.2 rfl))
    dsimp only at hg6_2
    clear hG6
    simp only [List.drop_succ_cons, List.drop_zero]
    have hz6 := hb6.size
    (try simp only [World.size_alloc, World.size_setCell, World.size_drew, World.size_drewN'] at hz6)
    (try (have k6_w_0_0 := cellAt hb6 (w.heap.size) (by go_size) 0; simp [go_sem, *] at k6_w_0_0))
    (try (have k6_w_0_1 := cellAt hb6 (w.heap.size) (by go_size) 1; simp [go_sem, *] at k6_w_0_1))
    (try (have k6_w_0_2 := cellAt hb6 (w.heap.size) (by go_size) 2; simp [go_sem, *] at k6_w_0_2))
    (try (have k6_w_0_3 := cellAt hb6 (w.heap.size) (by go_size) 3; simp [go_sem, *] at k6_w_0_3))
    (try (have k6_w_0_4 := cellAt hb6 (w.heap.size) (by go_size) 4; simp [go_sem, *] at k6_w_0_4))
    (try (have f6_w_0 := frozAt hb6 (w.heap.size) (by go_size); simp [go_sem, *] at f6_w_0))
    (try have l6_w_0 : w.heap.size < w6.heap.size := by omega)
    (try (have k6_w4_0_0 := cellAt hb6 (w4.heap.size) (by go_size) 0; simp [go_sem, *] at k6_w4_0_0))
    (try (have k6_w4_0_1 := cellAt hb6 (w4.heap.size) (by go_size) 1; simp [go_sem, *] at k6_w4_0_1))
    (try (have k6_w4_0_2 := cellAt hb6 (w4.heap.size) (by go_size) 2; simp [go_sem, *] at k6_w4_0_2))
    (try (have k6_w4_0_3 := cellAt hb6 (w4.heap.size) (by go_size) 3; simp [go_sem, *] at k6_w4_0_3))
    (try (have k6_w4_0_4 := cellAt hb6 (w4.heap.size) (by go_size) 4; simp [go_sem, *] at k6_w4_0_4))
    (try (have f6_w4_0 := frozAt hb6 (w4.heap.size) (by go_size); simp [go_sem, *] at f6_w4_0))
    (try have l6_w4_0 : w4.heap.size < w6.heap.size := by omega)
    (try clear k1_w_0_0)
    (try clear k1_w_0_1)
    (try clear k1_w_0_2)
    (try clear k1_w_0_3)
    (try clear k1_w_0_4)
    (try clear f1_w_0)
    (try clear l1_w_0)
    (try clear k2_w_0_0)
    (try clear k2_w_0_1)
    (try clear k2_w_0_2)
    (try clear k2_w_0_3)
    (try clear k2_w_0_4)
    (try clear f2_w_0)
    (try clear l2_w_0)
    (try clear k3_w_0_0)
    (try clear k3_w_0_1)
    (try clear k3_w_0_2)
    (try clear k3_w_0_3)
    (try clear k3_w_0_4)
    (try clear f3_w_0)
    (try clear l3_w_0)
    (try clear k4_w_0_0)
    (try clear k4_w_0_1)
    (try clear k4_w_0_2)
    (try clear k4_w_0_3)
    (try clear k4_w_0_4)
    (try clear f4_w_0)
    (try clear l4_w_0)
    (try clear k5_w_0_0)
    (try clear k5_w_0_1)
    (try clear k5_w_0_2)
    (try clear k5_w_0_3)
    (try clear k5_w_0_4)
    (try clear f5_w_0)
    (try clear l5_w_0)
    (try clear k5_w4_0_0)
    (try clear k5_w4_0_1)
    (try clear k5_w4_0_2)
    (try clear k5_w4_0_3)
    (try clear k5_w4_0_4)
    (try clear f5_w4_0)
    (try clear l5_w4_0)
    go_wp2_with fail
    go_ret
    refine ⟨rfl, ?_⟩
    repeat' first | (with_reducible exact Below.refl _ _) | (with_reducible assumption) | (with_reducible refine below_drewN ?_ _) | (with_reducible refine Below.drew ?_) | (with_reducible refine Below.alloc ?_ ?_ _) | (with_reducible refine Below.setCell ?_ ?_ _) | (with_reducible refine below_via (by assumption) ?_ ?_) | go_size
end Go.Proofs.Ytbdjcojamopdlaa
