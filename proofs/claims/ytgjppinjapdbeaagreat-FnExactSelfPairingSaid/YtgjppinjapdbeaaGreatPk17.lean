/- Lemmas and contracts of functions. No condition. -/
import Derived.Test.YtgjppinjapdbeaaGreatPk4
import Derived.Test.YtgjppinjapdbeaaGreatPk5
import Derived.Test.YtgjppinjapdbeaaGreatPk13
import Derived.Test.YtgjppinjapdbeaaGreatPk16
namespace Go.Proofs.YtgjppinjapdbeaaGreat
section
open Go.RowKit
set_option linter.unusedVariables false
set_option maxHeartbeats 1000000
set_option maxRecDepth 20000
set_option linter.unusedSimpArgs false
attribute [local go_sem] openAt openUpon
def rgB (b : Bool) (zs : List Int) (b2 : Bool) (ys : List Int) : Bool := gwB b zs && (gwB b2 ys && (decide (zs.length ≤ 80) && (inB ys.length 1 80 && !b2)))
theorem rg_self (x z : Int) : rgB (ngB x) (limbs (ab x)) (ngB z) (limbs (ab z)) = raB x z := by
  unfold rgB raB
  rw [gw_self, gw_self]
  change (decide (ln x ≤ 400) && (decide (ln z ≤ 400) && (decide (ln x ≤ 80) && (inB (ln z) 1 80 && !ngB z)))) = (decide (ln x ≤ 80) && (decide (ln z ≤ 80) && decide (0 < z)))
  have h0 := ln_zero (a := z)
  rw [Bool.eq_iff_iff]
  simp only [Bool.and_eq_true, decide_eq_true_eq, inB_iff, Bool.not_eq_true', ngB, decide_eq_false_iff_not]
  constructor
  · rintro ⟨h1, h2, h3, ⟨h4, h5⟩, h6⟩
    have : ln z ≠ 0 := by omega
    have : z ≠ 0 := fun e => this (h0.2 e)
    omega
  · rintro ⟨h1, h2, h3⟩
    have : ln z ≠ 0 := fun e => by have := h0.1 e; omega
    omega
theorem xdGood_all (b b2 : Bool) (a a2 : Option Addr) (n c n2 c2 : Nat) (zs ys : List Int) (w : World) (hs : Sx w a n c zs) (hs2 : Sx w a2 n2 c2 ys) :
    Calls Tryz.prog 122 #[.agg #[.bool b, .slice a n c, .bool b2, .slice a2 n2 c2]] w fun e w' => e = .returned (.bool (rgB b zs b2 ys)) ∧ Below w.heap.size w w' := by
  have T1 : ∀ W, Below w.heap.size w W → Calls Tryz.prog 137 #[.agg #[.bool b, .slice a n c]] W fun e w' => e = .returned (.bool (gwB b zs)) ∧ Below W.heap.size W w' := fun W hW => bgGood_all b a n c zs W (hs.below hW)
  have T2 : ∀ W, Below w.heap.size w W → Calls Tryz.prog 137 #[.agg #[.bool b2, .slice a2 n2 c2]] W fun e w' => e = .returned (.bool (gwB b2 ys)) ∧ Below W.heap.size W w' := fun W hW => bgGood_all b2 a2 n2 c2 ys W (hs2.below hW)
  have T3 := fun W : World => Lib.hid (l1In_any n2 1 80 W)
  have hn : n ≤ 9223372036854775807 := by have := hs.cap; have := hs.max; unfold maxLen at this; omega
  have hn2 : n2 ≤ 9223372036854775807 := by have := hs2.cap; have := hs2.max; unfold maxLen at this; omega
  have e1 := hs.len
  have e2 := hs2.len
  have HR := Lib.hid (show rgB b zs b2 ys = (gwB b zs && (gwB b2 ys && (decide (n ≤ 80) && (inB n2 1 80 && !b2)))) by unfold rgB; rw [e1, e2])
  clear e1 e2
  generalize rgB b zs b2 ys = R at *
  generalize gwB b zs = g1 at *
  generalize gwB b2 ys = g2 at *
  generalize inB n2 1 80 = g3 at *
  cases g1
  · have tok1 : True := trivial
    have tok2 : True := trivial
    go_enter Tryz.func122, Tryz.ntmps122
    go_wp2_with (first | (have _t := tok1; go_at_call 137; (with_reducible refine ((T1 _ (by repeat' first | (with_reducible first | apply zRf | assumption | apply zDn | apply zDr | apply zAl | apply zSt | refine zVi (by assumption) ?_ ?_) | go_size))).mono ?_); rintro e w1 ⟨rfl, hb1⟩; clear tok1 _t; have hz1 := hb1.size; (try simp only [World.size_alloc, World.size_setCell, World.size_drew, World.size_drewN'] at hz1); (try (have kq := cellAt hb1 (w.heap.size) (by go_size); have k1_w_0_0 := kq 0; have k1_w_0_1 := kq 1; have k1_w_0_2 := kq 2; have k1_w_0_3 := kq 3; clear kq; have f1_w_0 := frozAt hb1 (w.heap.size) (by go_size); simp [go_sem, *] at k1_w_0_0 k1_w_0_1 k1_w_0_2 k1_w_0_3 f1_w_0)); (try have l1_w_0 : w.heap.size < w1.heap.size := by omega)) | (have _t := tok2; go_at_call 137; (with_reducible refine ((T2 _ (by repeat' first | (with_reducible first | apply zRf | assumption | apply zDn | apply zDr | apply zAl | apply zSt | refine zVi (by assumption) ?_ ?_) | go_size))).mono ?_); rintro e w2 ⟨rfl, hb2⟩; clear tok2 _t; have hz2 := hb2.size; (try simp only [World.size_alloc, World.size_setCell, World.size_drew, World.size_drewN'] at hz2); (try (have kq := cellAt hb2 (w.heap.size) (by go_size); have k2_w_0_0 := kq 0; have k2_w_0_1 := kq 1; have k2_w_0_2 := kq 2; have k2_w_0_3 := kq 3; clear kq; have f2_w_0 := frozAt hb2 (w.heap.size) (by go_size); simp [go_sem, *] at k2_w_0_0 k2_w_0_1 k2_w_0_2 k2_w_0_3 f2_w_0)); (try have l2_w_0 : w.heap.size < w2.heap.size := by omega); (try clear k1_w_0_0 k1_w_0_1 k1_w_0_2 k1_w_0_3 f1_w_0); (try clear l1_w_0)) | (go_at_call 54; (with_reducible refine ((T3 _).out).mono ?_); rintro e w' ⟨rfl, rfl⟩))
    go_ret
    refine ⟨ret_bool (by rw [HR.out]; rfl), ?_⟩
    repeat' first | (with_reducible first | apply zRf | assumption | apply zDn | apply zDr | apply zAl | apply zSt | refine zVi (by assumption) ?_ ?_) | go_size
  · cases g2
    · have tok1 : True := trivial
      have tok2 : True := trivial
      go_enter Tryz.func122, Tryz.ntmps122
      go_wp2_with (first | (have _t := tok1; go_at_call 137; (with_reducible refine ((T1 _ (by repeat' first | (with_reducible first | apply zRf | assumption | apply zDn | apply zDr | apply zAl | apply zSt | refine zVi (by assumption) ?_ ?_) | go_size))).mono ?_); rintro e w1 ⟨rfl, hb1⟩; clear tok1 _t; have hz1 := hb1.size; (try simp only [World.size_alloc, World.size_setCell, World.size_drew, World.size_drewN'] at hz1); (try (have kq := cellAt hb1 (w.heap.size) (by go_size); have k1_w_0_0 := kq 0; have k1_w_0_1 := kq 1; have k1_w_0_2 := kq 2; have k1_w_0_3 := kq 3; clear kq; have f1_w_0 := frozAt hb1 (w.heap.size) (by go_size); simp [go_sem, *] at k1_w_0_0 k1_w_0_1 k1_w_0_2 k1_w_0_3 f1_w_0)); (try have l1_w_0 : w.heap.size < w1.heap.size := by omega)) | (have _t := tok2; go_at_call 137; (with_reducible refine ((T2 _ (by repeat' first | (with_reducible first | apply zRf | assumption | apply zDn | apply zDr | apply zAl | apply zSt | refine zVi (by assumption) ?_ ?_) | go_size))).mono ?_); rintro e w2 ⟨rfl, hb2⟩; clear tok2 _t; have hz2 := hb2.size; (try simp only [World.size_alloc, World.size_setCell, World.size_drew, World.size_drewN'] at hz2); (try (have kq := cellAt hb2 (w.heap.size) (by go_size); have k2_w_0_0 := kq 0; have k2_w_0_1 := kq 1; have k2_w_0_2 := kq 2; have k2_w_0_3 := kq 3; clear kq; have f2_w_0 := frozAt hb2 (w.heap.size) (by go_size); simp [go_sem, *] at k2_w_0_0 k2_w_0_1 k2_w_0_2 k2_w_0_3 f2_w_0)); (try have l2_w_0 : w.heap.size < w2.heap.size := by omega); (try clear k1_w_0_0 k1_w_0_1 k1_w_0_2 k1_w_0_3 f1_w_0); (try clear l1_w_0)) | (go_at_call 54; (with_reducible refine ((T3 _).out).mono ?_); rintro e w' ⟨rfl, rfl⟩))
      go_ret
      refine ⟨ret_bool (by rw [HR.out]; rfl), ?_⟩
      repeat' first | (with_reducible first | apply zRf | assumption | apply zDn | apply zDr | apply zAl | apply zSt | refine zVi (by assumption) ?_ ?_) | go_size
    · by_cases h80 : n ≤ 80
      · have h80' : (n : Int) ≤ 80 := by omega
        have HR' := Lib.hid (show R = (g3 && !b2) by rw [HR.out]; simp [h80])
        cases g3
        · have tok1 : True := trivial
          have tok2 : True := trivial
          go_enter Tryz.func122, Tryz.ntmps122
          go_wp2_with (first | (have _t := tok1; go_at_call 137; (with_reducible refine ((T1 _ (by repeat' first | (with_reducible first | apply zRf | assumption | apply zDn | apply zDr | apply zAl | apply zSt | refine zVi (by assumption) ?_ ?_) | go_size))).mono ?_); rintro e w1 ⟨rfl, hb1⟩; clear tok1 _t; have hz1 := hb1.size; (try simp only [World.size_alloc, World.size_setCell, World.size_drew, World.size_drewN'] at hz1); (try (have kq := cellAt hb1 (w.heap.size) (by go_size); have k1_w_0_0 := kq 0; have k1_w_0_1 := kq 1; have k1_w_0_2 := kq 2; have k1_w_0_3 := kq 3; clear kq; have f1_w_0 := frozAt hb1 (w.heap.size) (by go_size); simp [go_sem, *] at k1_w_0_0 k1_w_0_1 k1_w_0_2 k1_w_0_3 f1_w_0)); (try have l1_w_0 : w.heap.size < w1.heap.size := by omega)) | (have _t := tok2; go_at_call 137; (with_reducible refine ((T2 _ (by repeat' first | (with_reducible first | apply zRf | assumption | apply zDn | apply zDr | apply zAl | apply zSt | refine zVi (by assumption) ?_ ?_) | go_size))).mono ?_); rintro e w2 ⟨rfl, hb2⟩; clear tok2 _t; have hz2 := hb2.size; (try simp only [World.size_alloc, World.size_setCell, World.size_drew, World.size_drewN'] at hz2); (try (have kq := cellAt hb2 (w.heap.size) (by go_size); have k2_w_0_0 := kq 0; have k2_w_0_1 := kq 1; have k2_w_0_2 := kq 2; have k2_w_0_3 := kq 3; clear kq; have f2_w_0 := frozAt hb2 (w.heap.size) (by go_size); simp [go_sem, *] at k2_w_0_0 k2_w_0_1 k2_w_0_2 k2_w_0_3 f2_w_0)); (try have l2_w_0 : w.heap.size < w2.heap.size := by omega); (try clear k1_w_0_0 k1_w_0_1 k1_w_0_2 k1_w_0_3 f1_w_0); (try clear l1_w_0)) | (go_at_call 54; (with_reducible refine ((T3 _).out).mono ?_); rintro e w' ⟨rfl, rfl⟩))
          go_ret
          refine ⟨ret_bool (by rw [HR'.out]; rfl), ?_⟩
          repeat' first | (with_reducible first | apply zRf | assumption | apply zDn | apply zDr | apply zAl | apply zSt | refine zVi (by assumption) ?_ ?_) | go_size
        · have tok1 : True := trivial
          have tok2 : True := trivial
          go_enter Tryz.func122, Tryz.ntmps122
          go_wp2_with (first | (have _t := tok1; go_at_call 137; (with_reducible refine ((T1 _ (by repeat' first | (with_reducible first | apply zRf | assumption | apply zDn | apply zDr | apply zAl | apply zSt | refine zVi (by assumption) ?_ ?_) | go_size))).mono ?_); rintro e w1 ⟨rfl, hb1⟩; clear tok1 _t; have hz1 := hb1.size; (try simp only [World.size_alloc, World.size_setCell, World.size_drew, World.size_drewN'] at hz1); (try (have kq := cellAt hb1 (w.heap.size) (by go_size); have k1_w_0_0 := kq 0; have k1_w_0_1 := kq 1; have k1_w_0_2 := kq 2; have k1_w_0_3 := kq 3; clear kq; have f1_w_0 := frozAt hb1 (w.heap.size) (by go_size); simp [go_sem, *] at k1_w_0_0 k1_w_0_1 k1_w_0_2 k1_w_0_3 f1_w_0)); (try have l1_w_0 : w.heap.size < w1.heap.size := by omega)) | (have _t := tok2; go_at_call 137; (with_reducible refine ((T2 _ (by repeat' first | (with_reducible first | apply zRf | assumption | apply zDn | apply zDr | apply zAl | apply zSt | refine zVi (by assumption) ?_ ?_) | go_size))).mono ?_); rintro e w2 ⟨rfl, hb2⟩; clear tok2 _t; have hz2 := hb2.size; (try simp only [World.size_alloc, World.size_setCell, World.size_drew, World.size_drewN'] at hz2); (try (have kq := cellAt hb2 (w.heap.size) (by go_size); have k2_w_0_0 := kq 0; have k2_w_0_1 := kq 1; have k2_w_0_2 := kq 2; have k2_w_0_3 := kq 3; clear kq; have f2_w_0 := frozAt hb2 (w.heap.size) (by go_size); simp [go_sem, *] at k2_w_0_0 k2_w_0_1 k2_w_0_2 k2_w_0_3 f2_w_0)); (try have l2_w_0 : w.heap.size < w2.heap.size := by omega); (try clear k1_w_0_0 k1_w_0_1 k1_w_0_2 k1_w_0_3 f1_w_0); (try clear l1_w_0)) | (go_at_call 54; (with_reducible refine ((T3 _).out).mono ?_); rintro e w' ⟨rfl, rfl⟩))
          go_ret
          refine ⟨ret_bool (by rw [HR'.out]; simp), ?_⟩
          repeat' first | (with_reducible first | apply zRf | assumption | apply zDn | apply zDr | apply zAl | apply zSt | refine zVi (by assumption) ?_ ?_) | go_size
      · have h80' : ¬ (n : Int) ≤ 80 := by omega
        have HR' := Lib.hid (show R = false by rw [HR.out]; simp [h80])
        have tok1 : True := trivial
        have tok2 : True := trivial
        go_enter Tryz.func122, Tryz.ntmps122
        go_wp2_with (first | (have _t := tok1; go_at_call 137; (with_reducible refine ((T1 _ (by repeat' first | (with_reducible first | apply zRf | assumption | apply zDn | apply zDr | apply zAl | apply zSt | refine zVi (by assumption) ?_ ?_) | go_size))).mono ?_); rintro e w1 ⟨rfl, hb1⟩; clear tok1 _t; have hz1 := hb1.size; (try simp only [World.size_alloc, World.size_setCell, World.size_drew, World.size_drewN'] at hz1); (try (have kq := cellAt hb1 (w.heap.size) (by go_size); have k1_w_0_0 := kq 0; have k1_w_0_1 := kq 1; have k1_w_0_2 := kq 2; have k1_w_0_3 := kq 3; clear kq; have f1_w_0 := frozAt hb1 (w.heap.size) (by go_size); simp [go_sem, *] at k1_w_0_0 k1_w_0_1 k1_w_0_2 k1_w_0_3 f1_w_0)); (try have l1_w_0 : w.heap.size < w1.heap.size := by omega)) | (have _t := tok2; go_at_call 137; (with_reducible refine ((T2 _ (by repeat' first | (with_reducible first | apply zRf | assumption | apply zDn | apply zDr | apply zAl | apply zSt | refine zVi (by assumption) ?_ ?_) | go_size))).mono ?_); rintro e w2 ⟨rfl, hb2⟩; clear tok2 _t; have hz2 := hb2.size; (try simp only [World.size_alloc, World.size_setCell, World.size_drew, World.size_drewN'] at hz2); (try (have kq := cellAt hb2 (w.heap.size) (by go_size); have k2_w_0_0 := kq 0; have k2_w_0_1 := kq 1; have k2_w_0_2 := kq 2; have k2_w_0_3 := kq 3; clear kq; have f2_w_0 := frozAt hb2 (w.heap.size) (by go_size); simp [go_sem, *] at k2_w_0_0 k2_w_0_1 k2_w_0_2 k2_w_0_3 f2_w_0)); (try have l2_w_0 : w.heap.size < w2.heap.size := by omega); (try clear k1_w_0_0 k1_w_0_1 k1_w_0_2 k1_w_0_3 f1_w_0); (try clear l1_w_0)) | (go_at_call 54; (with_reducible refine ((T3 _).out).mono ?_); rintro e w' ⟨rfl, rfl⟩))
        go_ret
        refine ⟨ret_bool (by rw [HR'.out]), ?_⟩
        repeat' first | (with_reducible first | apply zRf | assumption | apply zDn | apply zDr | apply zAl | apply zSt | refine zVi (by assumption) ?_ ?_) | go_size
theorem xdGood_any (b b2 : Bool) (a a2 : Option Addr) (n c n2 c2 : Nat) (x z : Int) (w : World) (hx : Wx w b a n c x) (hz : Wx w b2 a2 n2 c2 z) :
    Calls Tryz.prog 122 #[.agg #[.bool b, .slice a n c, .bool b2, .slice a2 n2 c2]] w fun e w' => e = .returned (.bool (raB x z)) ∧ Below w.heap.size w w' := by
  have := xdGood_all b b2 a a2 n c n2 c2 _ _ w hx.row hz.row
  have e : rgB b (limbs (ab x)) b2 (limbs (ab z)) = raB x z := by rw [hx.neg, hz.neg]; exact rg_self x z
  rw [e] at this
  exact this
theorem isRatio_all (b b2 : Bool) (a a2 : Option Addr) (n c n2 c2 : Nat) (zs ys : List Int) (w : World) (hs : Sx w a n c zs) (hs2 : Sx w a2 n2 c2 ys) :
    Calls Tryz.prog 130 #[.agg #[.bool b, .slice a n c, .bool b2, .slice a2 n2 c2]] w fun e w' => e = .returned (.bool (rgB b zs b2 ys)) ∧ Below w.heap.size w w' := by
  have T1 : ∀ W, Below w.heap.size w W → Calls Tryz.prog 140 #[.agg #[.bool b, .slice a n c]] W fun e w' => e = .returned (.bool (gwB b zs)) ∧ Below W.heap.size W w' := fun W hW => isWhole_all b a n c zs W (hs.below hW)
  have T2 : ∀ W, Below w.heap.size w W → Calls Tryz.prog 140 #[.agg #[.bool b2, .slice a2 n2 c2]] W fun e w' => e = .returned (.bool (gwB b2 ys)) ∧ Below W.heap.size W w' := fun W hW => isWhole_all b2 a2 n2 c2 ys W (hs2.below hW)
  have T3 := fun W : World => Lib.hid (inside_any n2 1 80 W)
  have hn : n ≤ 9223372036854775807 := by have := hs.cap; have := hs.max; unfold maxLen at this; omega
  have hn2 : n2 ≤ 9223372036854775807 := by have := hs2.cap; have := hs2.max; unfold maxLen at this; omega
  have e1 := hs.len
  have e2 := hs2.len
  have HR := Lib.hid (show rgB b zs b2 ys = (gwB b zs && (gwB b2 ys && (decide (n ≤ 80) && (inB n2 1 80 && !b2)))) by unfold rgB; rw [e1, e2])
  clear e1 e2
  generalize rgB b zs b2 ys = R at *
  generalize gwB b zs = g1 at *
  generalize gwB b2 ys = g2 at *
  generalize inB n2 1 80 = g3 at *
  cases g1
  · have tok1 : True := trivial
    have tok2 : True := trivial
    go_enter Tryz.func130, Tryz.ntmps130
    go_wp2_with (first | (have _t := tok1; go_at_call 140; (with_reducible refine ((T1 _ (by repeat' first | (with_reducible first | apply zRf | assumption | apply zDn | apply zDr | apply zAl | apply zSt | refine zVi (by assumption) ?_ ?_) | go_size))).mono ?_); rintro e w1 ⟨rfl, hb1⟩; clear tok1 _t; have hz1 := hb1.size; (try simp only [World.size_alloc, World.size_setCell, World.size_drew, World.size_drewN'] at hz1); (try (have kq := cellAt hb1 (w.heap.size) (by go_size); have k1_w_0_0 := kq 0; have k1_w_0_1 := kq 1; have k1_w_0_2 := kq 2; have k1_w_0_3 := kq 3; clear kq; have f1_w_0 := frozAt hb1 (w.heap.size) (by go_size); simp [go_sem, *] at k1_w_0_0 k1_w_0_1 k1_w_0_2 k1_w_0_3 f1_w_0)); (try have l1_w_0 : w.heap.size < w1.heap.size := by omega)) | (have _t := tok2; go_at_call 140; (with_reducible refine ((T2 _ (by repeat' first | (with_reducible first | apply zRf | assumption | apply zDn | apply zDr | apply zAl | apply zSt | refine zVi (by assumption) ?_ ?_) | go_size))).mono ?_); rintro e w2 ⟨rfl, hb2⟩; clear tok2 _t; have hz2 := hb2.size; (try simp only [World.size_alloc, World.size_setCell, World.size_drew, World.size_drewN'] at hz2); (try (have kq := cellAt hb2 (w.heap.size) (by go_size); have k2_w_0_0 := kq 0; have k2_w_0_1 := kq 1; have k2_w_0_2 := kq 2; have k2_w_0_3 := kq 3; clear kq; have f2_w_0 := frozAt hb2 (w.heap.size) (by go_size); simp [go_sem, *] at k2_w_0_0 k2_w_0_1 k2_w_0_2 k2_w_0_3 f2_w_0)); (try have l2_w_0 : w.heap.size < w2.heap.size := by omega); (try clear k1_w_0_0 k1_w_0_1 k1_w_0_2 k1_w_0_3 f1_w_0); (try clear l1_w_0)) | (go_at_call 42; (with_reducible refine ((T3 _).out).mono ?_); rintro e w' ⟨rfl, rfl⟩))
    go_ret
    refine ⟨ret_bool (by rw [HR.out]; rfl), ?_⟩
    repeat' first | (with_reducible first | apply zRf | assumption | apply zDn | apply zDr | apply zAl | apply zSt | refine zVi (by assumption) ?_ ?_) | go_size
  · cases g2
    · have tok1 : True := trivial
      have tok2 : True := trivial
      go_enter Tryz.func130, Tryz.ntmps130
      go_wp2_with (first | (have _t := tok1; go_at_call 140; (with_reducible refine ((T1 _ (by repeat' first | (with_reducible first | apply zRf | assumption | apply zDn | apply zDr | apply zAl | apply zSt | refine zVi (by assumption) ?_ ?_) | go_size))).mono ?_); rintro e w1 ⟨rfl, hb1⟩; clear tok1 _t; have hz1 := hb1.size; (try simp only [World.size_alloc, World.size_setCell, World.size_drew, World.size_drewN'] at hz1); (try (have kq := cellAt hb1 (w.heap.size) (by go_size); have k1_w_0_0 := kq 0; have k1_w_0_1 := kq 1; have k1_w_0_2 := kq 2; have k1_w_0_3 := kq 3; clear kq; have f1_w_0 := frozAt hb1 (w.heap.size) (by go_size); simp [go_sem, *] at k1_w_0_0 k1_w_0_1 k1_w_0_2 k1_w_0_3 f1_w_0)); (try have l1_w_0 : w.heap.size < w1.heap.size := by omega)) | (have _t := tok2; go_at_call 140; (with_reducible refine ((T2 _ (by repeat' first | (with_reducible first | apply zRf | assumption | apply zDn | apply zDr | apply zAl | apply zSt | refine zVi (by assumption) ?_ ?_) | go_size))).mono ?_); rintro e w2 ⟨rfl, hb2⟩; clear tok2 _t; have hz2 := hb2.size; (try simp only [World.size_alloc, World.size_setCell, World.size_drew, World.size_drewN'] at hz2); (try (have kq := cellAt hb2 (w.heap.size) (by go_size); have k2_w_0_0 := kq 0; have k2_w_0_1 := kq 1; have k2_w_0_2 := kq 2; have k2_w_0_3 := kq 3; clear kq; have f2_w_0 := frozAt hb2 (w.heap.size) (by go_size); simp [go_sem, *] at k2_w_0_0 k2_w_0_1 k2_w_0_2 k2_w_0_3 f2_w_0)); (try have l2_w_0 : w.heap.size < w2.heap.size := by omega); (try clear k1_w_0_0 k1_w_0_1 k1_w_0_2 k1_w_0_3 f1_w_0); (try clear l1_w_0)) | (go_at_call 42; (with_reducible refine ((T3 _).out).mono ?_); rintro e w' ⟨rfl, rfl⟩))
      go_ret
      refine ⟨ret_bool (by rw [HR.out]; rfl), ?_⟩
      repeat' first | (with_reducible first | apply zRf | assumption | apply zDn | apply zDr | apply zAl | apply zSt | refine zVi (by assumption) ?_ ?_) | go_size
    · by_cases h80 : n ≤ 80
      · have h80' : (n : Int) ≤ 80 := by omega
        have HR' := Lib.hid (show R = (g3 && !b2) by rw [HR.out]; simp [h80])
        cases g3
        · have tok1 : True := trivial
          have tok2 : True := trivial
          go_enter Tryz.func130, Tryz.ntmps130
          go_wp2_with (first | (have _t := tok1; go_at_call 140; (with_reducible refine ((T1 _ (by repeat' first | (with_reducible first | apply zRf | assumption | apply zDn | apply zDr | apply zAl | apply zSt | refine zVi (by assumption) ?_ ?_) | go_size))).mono ?_); rintro e w1 ⟨rfl, hb1⟩; clear tok1 _t; have hz1 := hb1.size; (try simp only [World.size_alloc, World.size_setCell, World.size_drew, World.size_drewN'] at hz1); (try (have kq := cellAt hb1 (w.heap.size) (by go_size); have k1_w_0_0 := kq 0; have k1_w_0_1 := kq 1; have k1_w_0_2 := kq 2; have k1_w_0_3 := kq 3; clear kq; have f1_w_0 := frozAt hb1 (w.heap.size) (by go_size); simp [go_sem, *] at k1_w_0_0 k1_w_0_1 k1_w_0_2 k1_w_0_3 f1_w_0)); (try have l1_w_0 : w.heap.size < w1.heap.size := by omega)) | (have _t := tok2; go_at_call 140; (with_reducible refine ((T2 _ (by repeat' first | (with_reducible first | apply zRf | assumption | apply zDn | apply zDr | apply zAl | apply zSt | refine zVi (by assumption) ?_ ?_) | go_size))).mono ?_); rintro e w2 ⟨rfl, hb2⟩; clear tok2 _t; have hz2 := hb2.size; (try simp only [World.size_alloc, World.size_setCell, World.size_drew, World.size_drewN'] at hz2); (try (have kq := cellAt hb2 (w.heap.size) (by go_size); have k2_w_0_0 := kq 0; have k2_w_0_1 := kq 1; have k2_w_0_2 := kq 2; have k2_w_0_3 := kq 3; clear kq; have f2_w_0 := frozAt hb2 (w.heap.size) (by go_size); simp [go_sem, *] at k2_w_0_0 k2_w_0_1 k2_w_0_2 k2_w_0_3 f2_w_0)); (try have l2_w_0 : w.heap.size < w2.heap.size := by omega); (try clear k1_w_0_0 k1_w_0_1 k1_w_0_2 k1_w_0_3 f1_w_0); (try clear l1_w_0)) | (go_at_call 42; (with_reducible refine ((T3 _).out).mono ?_); rintro e w' ⟨rfl, rfl⟩))
          go_ret
          refine ⟨ret_bool (by rw [HR'.out]; rfl), ?_⟩
          repeat' first | (with_reducible first | apply zRf | assumption | apply zDn | apply zDr | apply zAl | apply zSt | refine zVi (by assumption) ?_ ?_) | go_size
        · have tok1 : True := trivial
          have tok2 : True := trivial
          go_enter Tryz.func130, Tryz.ntmps130
          go_wp2_with (first | (have _t := tok1; go_at_call 140; (with_reducible refine ((T1 _ (by repeat' first | (with_reducible first | apply zRf | assumption | apply zDn | apply zDr | apply zAl | apply zSt | refine zVi (by assumption) ?_ ?_) | go_size))).mono ?_); rintro e w1 ⟨rfl, hb1⟩; clear tok1 _t; have hz1 := hb1.size; (try simp only [World.size_alloc, World.size_setCell, World.size_drew, World.size_drewN'] at hz1); (try (have kq := cellAt hb1 (w.heap.size) (by go_size); have k1_w_0_0 := kq 0; have k1_w_0_1 := kq 1; have k1_w_0_2 := kq 2; have k1_w_0_3 := kq 3; clear kq; have f1_w_0 := frozAt hb1 (w.heap.size) (by go_size); simp [go_sem, *] at k1_w_0_0 k1_w_0_1 k1_w_0_2 k1_w_0_3 f1_w_0)); (try have l1_w_0 : w.heap.size < w1.heap.size := by omega)) | (have _t := tok2; go_at_call 140; (with_reducible refine ((T2 _ (by repeat' first | (with_reducible first | apply zRf | assumption | apply zDn | apply zDr | apply zAl | apply zSt | refine zVi (by assumption) ?_ ?_) | go_size))).mono ?_); rintro e w2 ⟨rfl, hb2⟩; clear tok2 _t; have hz2 := hb2.size; (try simp only [World.size_alloc, World.size_setCell, World.size_drew, World.size_drewN'] at hz2); (try (have kq := cellAt hb2 (w.heap.size) (by go_size); have k2_w_0_0 := kq 0; have k2_w_0_1 := kq 1; have k2_w_0_2 := kq 2; have k2_w_0_3 := kq 3; clear kq; have f2_w_0 := frozAt hb2 (w.heap.size) (by go_size); simp [go_sem, *] at k2_w_0_0 k2_w_0_1 k2_w_0_2 k2_w_0_3 f2_w_0)); (try have l2_w_0 : w.heap.size < w2.heap.size := by omega); (try clear k1_w_0_0 k1_w_0_1 k1_w_0_2 k1_w_0_3 f1_w_0); (try clear l1_w_0)) | (go_at_call 42; (with_reducible refine ((T3 _).out).mono ?_); rintro e w' ⟨rfl, rfl⟩))
          go_ret
          refine ⟨ret_bool (by rw [HR'.out]; simp), ?_⟩
          repeat' first | (with_reducible first | apply zRf | assumption | apply zDn | apply zDr | apply zAl | apply zSt | refine zVi (by assumption) ?_ ?_) | go_size
      · have h80' : ¬ (n : Int) ≤ 80 := by omega
        have HR' := Lib.hid (show R = false by rw [HR.out]; simp [h80])
        have tok1 : True := trivial
        have tok2 : True := trivial
        go_enter Tryz.func130, Tryz.ntmps130
        go_wp2_with (first | (have _t := tok1; go_at_call 140; (with_reducible refine ((T1 _ (by repeat' first | (with_reducible first | apply zRf | assumption | apply zDn | apply zDr | apply zAl | apply zSt | refine zVi (by assumption) ?_ ?_) | go_size))).mono ?_); rintro e w1 ⟨rfl, hb1⟩; clear tok1 _t; have hz1 := hb1.size; (try simp only [World.size_alloc, World.size_setCell, World.size_drew, World.size_drewN'] at hz1); (try (have kq := cellAt hb1 (w.heap.size) (by go_size); have k1_w_0_0 := kq 0; have k1_w_0_1 := kq 1; have k1_w_0_2 := kq 2; have k1_w_0_3 := kq 3; clear kq; have f1_w_0 := frozAt hb1 (w.heap.size) (by go_size); simp [go_sem, *] at k1_w_0_0 k1_w_0_1 k1_w_0_2 k1_w_0_3 f1_w_0)); (try have l1_w_0 : w.heap.size < w1.heap.size := by omega)) | (have _t := tok2; go_at_call 140; (with_reducible refine ((T2 _ (by repeat' first | (with_reducible first | apply zRf | assumption | apply zDn | apply zDr | apply zAl | apply zSt | refine zVi (by assumption) ?_ ?_) | go_size))).mono ?_); rintro e w2 ⟨rfl, hb2⟩; clear tok2 _t; have hz2 := hb2.size; (try simp only [World.size_alloc, World.size_setCell, World.size_drew, World.size_drewN'] at hz2); (try (have kq := cellAt hb2 (w.heap.size) (by go_size); have k2_w_0_0 := kq 0; have k2_w_0_1 := kq 1; have k2_w_0_2 := kq 2; have k2_w_0_3 := kq 3; clear kq; have f2_w_0 := frozAt hb2 (w.heap.size) (by go_size); simp [go_sem, *] at k2_w_0_0 k2_w_0_1 k2_w_0_2 k2_w_0_3 f2_w_0)); (try have l2_w_0 : w.heap.size < w2.heap.size := by omega); (try clear k1_w_0_0 k1_w_0_1 k1_w_0_2 k1_w_0_3 f1_w_0); (try clear l1_w_0)) | (go_at_call 42; (with_reducible refine ((T3 _).out).mono ?_); rintro e w' ⟨rfl, rfl⟩))
        go_ret
        refine ⟨ret_bool (by rw [HR'.out]), ?_⟩
        repeat' first | (with_reducible first | apply zRf | assumption | apply zDn | apply zDr | apply zAl | apply zSt | refine zVi (by assumption) ?_ ?_) | go_size
theorem isRatio_any (b b2 : Bool) (a a2 : Option Addr) (n c n2 c2 : Nat) (x z : Int) (w : World) (hx : Wx w b a n c x) (hz : Wx w b2 a2 n2 c2 z) :
    Calls Tryz.prog 130 #[.agg #[.bool b, .slice a n c, .bool b2, .slice a2 n2 c2]] w fun e w' => e = .returned (.bool (raB x z)) ∧ Below w.heap.size w w' := by
  have := isRatio_all b b2 a a2 n c n2 c2 _ _ w hx.row hz.row
  have e : rgB b (limbs (ab x)) b2 (limbs (ab z)) = raB x z := by rw [hx.neg, hz.neg]; exact rg_self x z
  rw [e] at this
  exact this
end
section
open Go.RowKit
set_option linter.unusedVariables false
set_option linter.unusedSimpArgs false

def pre1 (n d : Int) : Bool := frB n d && (4096 % d == 0)
def plN (n d : Int) : Int := if pre1 n d = true then n * (4096 / d) else 0
def plB (n d : Int) : Bool := pre1 n d && inB (plN n d) (-409600000) 409600000
def validB (a b : Int) : Bool := decide (a ≤ b) && decide (-409600000 ≤ a) && decide (b ≤ 409600000)
def goodB (n1 d1 n2 d2 : Int) : Bool := plB n1 d1 && plB n2 d2 && decide (plN n1 d1 ≤ plN n2 d2)
theorem goodB_eq (n1 d1 n2 d2 : Int) : goodB n1 d1 n2 d2 = (pre1 n1 d1 && pre1 n2 d2 && validB (plN n1 d1) (plN n2 d2)) := by
  unfold goodB plB validB inB
  cases pre1 n1 d1 <;> cases pre1 n2 d2 <;> simp
  rw [Bool.eq_iff_iff]; simp; omega
theorem validB_bd {a b : Int} (h : validB a b = true) : a ≤ b ∧ -409600000 ≤ a ∧ b ≤ 409600000 := by
  simp [validB] at h; omega
theorem validB_mk {a b : Int} (h1 : a ≤ b) (h2 : -409600000 ≤ a) (h3 : b ≤ 409600000) : validB a b = true := by
  simp [validB, h1, h2, h3]
theorem goodB_bd {n1 d1 n2 d2 : Int} (h : goodB n1 d1 n2 d2 = true) : plN n1 d1 ≤ plN n2 d2 ∧ -409600000 ≤ plN n1 d1 ∧ plN n2 d2 ≤ 409600000 := by
  rw [goodB_eq] at h; simp at h; exact validB_bd h.2
theorem plN_pre {n d : Int} (h : pre1 n d = true) : plN n d = n * (4096 / d) := by simp [plN, h]
theorem quo_bd (d : Int) (h : 1 ≤ d) : 0 ≤ 4096 / d ∧ 4096 / d ≤ 4096 := ⟨Int.ediv_nonneg (by omega) (by omega), Int.ediv_le_self _ (by omega)⟩
/-- lowest terms of a positive denominator -/
theorem gcd_quo (n d : Int) (hd : d ≠ 0) : Int.gcd (n.tdiv (gcdI n d)) (d.tdiv (gcdI n d)) = 1 := by
  have hg : 0 < Int.gcd n d := Int.gcd_pos_of_ne_zero_right n hd
  obtain ⟨a, ha⟩ := Int.gcd_dvd_left n d
  obtain ⟨b, hb⟩ := Int.gcd_dvd_right n d
  have e1 : n.tdiv (gcdI n d) = a := by
    have : n.tdiv (gcdI n d) = (gcdI n d * a).tdiv (gcdI n d) := by rw [show gcdI n d * a = n from ha.symm]
    rw [this]
    exact Int.mul_tdiv_cancel_left _ (by have := gcdI_pos (a := n) hd; omega)
  have e2 : d.tdiv (gcdI n d) = b := by
    have : d.tdiv (gcdI n d) = (gcdI n d * b).tdiv (gcdI n d) := by rw [show gcdI n d * b = d from hb.symm]
    rw [this]
    exact Int.mul_tdiv_cancel_left _ (by have := gcdI_pos (a := n) hd; omega)
  rw [e1, e2]
  have h := Int.gcd_mul_left (Int.gcd n d : Int) a b
  rw [← ha, ← hb] at h
  have h2 : Int.gcd n d * 1 = Int.gcd n d * Int.gcd a b := by rw [Nat.mul_one]; simpa using h
  exact (Nat.eq_of_mul_eq_mul_left hg h2).symm
theorem quo_mul (n d : Int) (hd : d ≠ 0) : n.tdiv (gcdI n d) * gcdI n d = n ∧ d.tdiv (gcdI n d) * gcdI n d = d :=
  ⟨Int.tdiv_mul_cancel (by unfold gcdI; exact Int.gcd_dvd_left n d), Int.tdiv_mul_cancel (by unfold gcdI; exact Int.gcd_dvd_right n d)⟩
theorem mkND_pos {n d : Int} (hd : 0 < d) : mkN n d = n.tdiv (gcdI n d) ∧ mkD n d = d.tdiv (gcdI n d) := by
  unfold mkN mkD; rw [if_neg (by omega), if_neg (by omega)]; exact ⟨rfl, rfl⟩
theorem mkD_pos {n d : Int} (hd : 0 < d) : 1 ≤ mkD n d ∧ mkD n d ≤ d := by
  rw [(mkND_pos hd).2]
  have h1 := (quo_mul n d (by omega)).2
  have h2 := gcdI_pos (a := n) (b := d) (by omega)
  have h3 : 0 < d.tdiv (gcdI n d) := by
    rcases Int.lt_or_le 0 (d.tdiv (gcdI n d)) with g | g
    · exact g
    · have : d.tdiv (gcdI n d) * gcdI n d ≤ 0 := Int.mul_nonpos_of_nonpos_of_nonneg g (by omega)
      omega
  have h4 := tdiv_bd d (gcdI n d)
  omega
theorem mkN_bd (n d : Int) : (mkN n d).natAbs ≤ n.natAbs := by
  unfold mkN
  have := tdiv_bd n (gcdI n d)
  split <;> omega
/-- a quotient by a positive number is its lowest terms -/
theorem mk_mul {n d : Int} (hd : 0 < d) : mkN n d * d = n * mkD n d := by
  rw [(mkND_pos hd).1, (mkND_pos hd).2]
  obtain ⟨h1, h2⟩ := quo_mul n d (by omega)
  generalize gcdI n d = g at *
  generalize n.tdiv g = x at *
  generalize d.tdiv g = y at *
  subst h1 h2
  rw [Int.mul_assoc, Int.mul_comm g y]
theorem mk_gcd {n d : Int} (hd : 0 < d) : gcdI (mkN n d) (mkD n d) = 1 := by
  rw [(mkND_pos hd).1, (mkND_pos hd).2]
  unfold gcdI
  rw [show Int.gcd (n.tdiv (Int.gcd n d : Int)) (d.tdiv (Int.gcd n d : Int)) = 1 from gcd_quo n d (by omega)]
  rfl
theorem mk_fr {n d : Int} (hd : 0 < d) : frB (mkN n d) (mkD n d) = (decide (mkD n d ≤ 1000000000) && inB (mkN n d) (-1000000000) 1000000000) := by
  have h1 := mkD_pos (n := n) hd
  simp [frB, mk_gcd hd, inB, h1.1]
/-- on the grid -/
theorem mk_place (a : Int) : 4096 % mkD a 4096 = 0 ∧ mkN a 4096 * (4096 / mkD a 4096) = a := by
  have hd := mkD_pos (n := a) (d := 4096) (by omega)
  have hm := mk_mul (n := a) (d := 4096) (by omega)
  have h2 : mkD a 4096 ∣ 4096 := by
    rw [(mkND_pos (by omega)).2]
    exact ⟨gcdI a 4096, ((quo_mul a 4096 (by omega)).2).symm⟩
  refine ⟨Int.emod_eq_zero_of_dvd h2, ?_⟩
  have h3 : (mkN a 4096 * (4096 / mkD a 4096)) * mkD a 4096 = a * mkD a 4096 := by
    rw [Int.mul_assoc, Int.ediv_mul_cancel h2, hm]
  exact Int.eq_of_mul_eq_mul_right (by omega) h3
theorem mk_ok {a : Int} (h1 : -1000000000 ≤ a) (h2 : a ≤ 1000000000) : frB (mkN a 4096) (mkD a 4096) = true := by
  rw [mk_fr (by omega)]
  have h3 := mkD_pos (n := a) (d := 4096) (by omega)
  have h4 := mkN_bd a 4096
  simp [inB]; omega
theorem mk_pre {a : Int} (h : frB (mkN a 4096) (mkD a 4096) = true) : pre1 (mkN a 4096) (mkD a 4096) = true ∧ plN (mkN a 4096) (mkD a 4096) = a := by
  have hp := mk_place a
  have h1 : pre1 (mkN a 4096) (mkD a 4096) = true := by simp [pre1, h, hp.1]
  exact ⟨h1, by rw [plN_pre h1]; exact hp.2⟩
theorem mkF_grid {a : Int} (h1 : -1000000000 ≤ a) (h2 : a ≤ 1000000000) : mkF a 4096 = (mkN a 4096, mkD a 4096, true) := mkF_yes rfl rfl (mk_ok h1 h2)
/-- the interval between two places: valid or nothing -/
theorem make_good (a b : Int) : ((mkF a 4096).2.2 && (mkF b 4096).2.2 && goodB (mkF a 4096).1 (mkF a 4096).2.1 (mkF b 4096).1 (mkF b 4096).2.1) = validB a b := by
  unfold mkF
  by_cases ha : frB (mkN a 4096) (mkD a 4096) = true
  · by_cases hb : frB (mkN b 4096) (mkD b 4096) = true
    · obtain ⟨p1, q1⟩ := mk_pre ha
      obtain ⟨p2, q2⟩ := mk_pre hb
      simp only [if_pos ha, if_pos hb]
      rw [goodB_eq, p1, p2, q1, q2]
      simp
    · rw [if_pos ha, if_neg hb]
      simp only [Bool.and_false, Bool.false_and]
      symm
      rcases h : validB a b with _ | _
      · rfl
      · have := validB_bd h
        exact absurd (mk_ok (a := b) (by omega) (by omega)) hb
  · rw [if_neg ha]
    simp only [Bool.false_and]
    symm
    rcases h : validB a b with _ | _
    · rfl
    · have := validB_bd h
      exact absurd (mk_ok (a := a) (by omega) (by omega)) ha
/-- the interval of two places, or zeros -/
def ivN1 (ok : Bool) (a b : Int) : Int := if (ok && validB a b) = true then mkN a 4096 else 0
def ivD1 (ok : Bool) (a b : Int) : Int := if (ok && validB a b) = true then mkD a 4096 else 0
def ivN2 (ok : Bool) (a b : Int) : Int := if (ok && validB a b) = true then mkN b 4096 else 0
def ivD2 (ok : Bool) (a b : Int) : Int := if (ok && validB a b) = true then mkD b 4096 else 0
def ivV (ok : Bool) (a b : Int) : Value := .tuple #[.agg #[.int .i64 (ivN1 ok a b), .int .i64 (ivD1 ok a b), .int .i64 (ivN2 ok a b), .int .i64 (ivD2 ok a b)], .bool (ok && validB a b)]
theorem ivV_no {ok : Bool} {a b : Int} (h : (ok && validB a b) = false) : ivV ok a b = .tuple #[.agg #[.int .i64 0, .int .i64 0, .int .i64 0, .int .i64 0], .bool false] := by
  simp [ivV, ivN1, ivD1, ivN2, ivD2, h]
theorem ivV_yes {a b : Int} (h : validB a b = true) : ivV true a b = .tuple #[.agg #[.int .i64 (mkN a 4096), .int .i64 (mkD a 4096), .int .i64 (mkN b 4096), .int .i64 (mkD b 4096)], .bool true] := by
  simp [ivV, ivN1, ivD1, ivN2, ivD2, h]
theorem iv_read {a b : Int} (h : validB a b = true) : goodB (mkN a 4096) (mkD a 4096) (mkN b 4096) (mkD b 4096) = true ∧ plN (mkN a 4096) (mkD a 4096) = a ∧ plN (mkN b 4096) (mkD b 4096) = b := by
  have hv := validB_bd h
  have ha := mk_ok (a := a) (by omega) (by omega)
  have hb := mk_ok (a := b) (by omega) (by omega)
  obtain ⟨p1, q1⟩ := mk_pre ha
  obtain ⟨p2, q2⟩ := mk_pre hb
  exact ⟨by rw [goodB_eq, p1, p2, q1, q2, h]; rfl, q1, q2⟩
/-- what the functions on two intervals hand back -/
def opV (g : Bool) (a b : Int) : Value := if g = true then ivV true a b else .tuple #[.agg #[.int .i64 0, .int .i64 0, .int .i64 0, .int .i64 0], .bool false]
theorem opV_eq (g : Bool) (a b : Int) : opV g a b = ivV g a b := by
  cases g
  · rw [ivV_no rfl]; rfl
  · rfl
end
section
open Go.RowKit
set_option linter.unusedVariables false
set_option linter.unusedSimpArgs false

def bitsZ (x z : Int) : Int := most (bl (ab x) : Nat) (bl (ab z) : Nat)
theorem bitsZ_bd {x z : Int} (h : ln x ≤ 80 ∧ ln z ≤ 80) : 0 ≤ bitsZ x z ∧ bitsZ x z ≤ 1120 := by
  have h1 := bl_len (ab x)
  have h2 := bl_len (ab z)
  have h3 := h.1
  have h4 := h.2
  unfold ln at h3 h4
  unfold bitsZ
  rw [most_eq]
  omega
def hLo (C b p : Int) : Int := down (most 0 (3 * (b - 1) - C) * 4096) p
def hHi (C b p : Int) : Int := -(down (-((3 * b + C) * 4096)) p)
theorem down_mono {a b p : Int} (hp : 0 < p) (h : a ≤ b) : down a p ≤ down b p := Int.ediv_le_ediv hp h
theorem down_up {a p : Int} (hp : 0 < p) : down a p ≤ -(down (-a) p) := by
  unfold down
  have h1 := Int.ediv_mul_le a (b := p) (by omega)
  have h2 := Int.ediv_mul_le (-a) (b := p) (by omega)
  rcases Int.lt_or_le (-((-a) / p)) (a / p) with h | h
  · exfalso
    have h3 : 1 ≤ a / p + (-a) / p := by omega
    have h4 := Int.mul_le_mul_of_nonneg_right h3 (show 0 ≤ p by omega)
    rw [Int.add_mul] at h4
    omega
  · exact h
theorem hLo_hi {C b p : Int} (hp : 0 < p) (hC : 0 ≤ C) (hb : 0 ≤ b) : hLo C b p ≤ hHi C b p := by
  unfold hLo hHi
  exact Int.le_trans (down_mono hp (show most 0 (3 * (b - 1) - C) * 4096 ≤ (3 * b + C) * 4096 by rw [most_eq]; omega)) (down_up hp)
theorem hLo_bd {C b p : Int} (hp : 0 < p) (hC : 0 ≤ C ∧ C ≤ 64) (hb : 0 ≤ b ∧ b ≤ 1120) : 0 ≤ hLo C b p ∧ hLo C b p ≤ 14000000 := by
  unfold hLo down
  have h0 : 0 ≤ most 0 (3 * (b - 1) - C) * 4096 ∧ most 0 (3 * (b - 1) - C) * 4096 ≤ 14000000 := by rw [most_eq]; omega
  exact ⟨Int.ediv_nonneg h0.1 (by omega), Int.le_trans (Int.ediv_le_self _ h0.1) h0.2⟩
theorem hHi_bd {C b p : Int} (hp : 0 < p) (hC : 0 ≤ C ∧ C ≤ 64) (hb : 0 ≤ b ∧ b ≤ 1120) : 0 ≤ hHi C b p ∧ hHi C b p ≤ 14100000 := by
  have h1 := down_in (a := -((3 * b + C) * 4096)) (b := p) (M := 14100000) hp (by omega)
  have h2 := hLo_hi hp hC.1 hb.1
  have h3 := hLo_bd hp hC hb
  unfold hHi at *
  omega
def htOk : RSt → Bool
  | .bad => false
  | _ => true
def htLo (C : Int) (n : Nat) : RSt → Int
  | .at x z => hLo C (bitsZ x z) (4 ^ n * 3)
  | _ => 0
def htHi (C : Int) (n : Nat) : RSt → Int
  | .at x z => hHi C (bitsZ x z) (4 ^ n * 3)
  | _ => 0
theorem p43 (n : Nat) : (0 : Int) < 4 ^ n * 3 := by have : (0 : Int) < 4 ^ n := Int.pow_pos (by omega); omega
theorem ht_bd {C : Int} {n : Nat} {s : RSt} (hC : 0 ≤ C ∧ C ≤ 64) (hs : okS s = true) : 0 ≤ htLo C n s ∧ htLo C n s ≤ htHi C n s ∧ htHi C n s ≤ 14100000 := by
  cases s with
  | inf => simp [htLo, htHi]
  | bad => simp [htLo, htHi]
  | «at» x z =>
    have hr := raB_bd hs
    have hb := bitsZ_bd ⟨hr.1, hr.2.1⟩
    exact ⟨(hLo_bd (p43 n) hC hb).1, hLo_hi (p43 n) hC.1 hb.1, (hHi_bd (p43 n) hC hb).2⟩
/-- the common part of the first intervals -/
def bLo (C : Int) (st : Nat → RSt) : Nat → Int
  | 0 => htLo C 0 (st 0)
  | k + 1 => max (bLo C st k) (htLo C (k + 1) (st (k + 1)))
def bHi (C : Int) (st : Nat → RSt) : Nat → Int
  | 0 => htHi C 0 (st 0)
  | k + 1 => min (bHi C st k) (htHi C (k + 1) (st (k + 1)))
def bN (st : Nat → RSt) : Nat → Nat → Nat
  | 0, n => n
  | f + 1, n => if htOk (st (n + 1)) = true then bN st f (n + 1) else n
def bestN (st : Nat → RSt) : Nat := bN st 5 0
theorem bN_ge (st : Nat → RSt) : ∀ f n, n ≤ bN st f n
  | 0, n => Nat.le_refl _
  | f + 1, n => by
    unfold bN; split
    · have := bN_ge st f (n + 1); omega
    · exact Nat.le_refl _
theorem bN_go {st : Nat → RSt} {n : Nat} (hn : n < 5) (h : htOk (st (n + 1)) = true) : bN st (5 - n) n = bN st (5 - (n + 1)) (n + 1) := by
  obtain ⟨f, hf⟩ : ∃ f, 5 - n = f + 1 := ⟨5 - (n + 1), by omega⟩
  rw [hf, show 5 - (n + 1) = f by omega, bN, if_pos h]
theorem bN_stop {st : Nat → RSt} {n : Nat} (h : htOk (st (n + 1)) = false) : bN st (5 - n) n = n := by
  by_cases hn : n < 5
  · obtain ⟨f, hf⟩ : ∃ f, 5 - n = f + 1 := ⟨5 - (n + 1), by omega⟩
    rw [hf, bN, if_neg (by simp [h])]
  · rw [show 5 - n = 0 by omega]; rfl
theorem bN_end {st : Nat → RSt} {n : Nat} (hn : ¬ n < 5) : bN st (5 - n) n = n := by rw [show 5 - n = 0 by omega]; rfl
theorem b_bd {C : Int} {st : Nat → RSt} (hC : 0 ≤ C ∧ C ≤ 64) (hs : ∀ k, okS (st k) = true) : ∀ k, (0 ≤ bLo C st k ∧ bLo C st k ≤ 14100000) ∧ (0 ≤ bHi C st k ∧ bHi C st k ≤ 14100000)
  | 0 => by have := ht_bd (n := 0) hC (hs 0); simp only [bLo, bHi]; omega
  | k + 1 => by
    have h1 := b_bd hC hs k
    have h2 := ht_bd (n := k + 1) hC (hs (k + 1))
    simp only [bLo, bHi]; omega
theorem valid_b {C : Int} {st : Nat → RSt} (hC : 0 ≤ C ∧ C ≤ 64) (hs : ∀ k, okS (st k) = true) (k : Nat) : validB (bLo C st k) (bHi C st k) = decide (bLo C st k ≤ bHi C st k) := by
  have := b_bd hC hs k
  unfold validB
  rw [show decide (-409600000 ≤ bLo C st k) = true by simp; omega, show decide (bHi C st k ≤ 409600000) = true by simp; omega]
  simp
theorem b_anti {C : Int} {st : Nat → RSt} {n : Nat} : ∀ m, n ≤ m → bLo C st m ≤ bHi C st m → bLo C st n ≤ bHi C st n := fun m hm h => by
  obtain ⟨d, rfl⟩ : ∃ d, m = n + d := ⟨m - n, by omega⟩
  induction d with
  | zero => exact h
  | succ d ih =>
    apply ih (by omega)
    rw [← Nat.add_assoc] at h
    simp only [bLo, bHi] at h
    omega
theorem valid_ht {C : Int} {n : Nat} {s : RSt} (hC : 0 ≤ C ∧ C ≤ 64) (hs : okS s = true) : validB (htLo C n s) (htHi C n s) = true := by
  have := ht_bd (n := n) hC hs
  exact validB_mk this.2.1 (by omega) (by omega)
end
section
open Go.RowKit
set_option linter.unusedVariables false
set_option maxHeartbeats 1000000
set_option maxRecDepth 20000
set_option linter.unusedSimpArgs false
attribute [local go_sem] openAt openUpon
theorem xdOf_any (p q : Int) (w : World) (hp : -9223372036854775807 ≤ p ∧ p ≤ 9223372036854775807) (hq : -9223372036854775807 ≤ q ∧ q ≤ 9223372036854775807) :
    Calls Tryz.prog 100 #[.int .i64 p, .int .i64 q] w (NewR w p q) := by
  have tok1 : True := trivial
  have tok2 : True := trivial
  go_enter Tryz.func100, Tryz.ntmps100
  go_wp2_with (first | (have _t := tok1; go_at_call 107; (with_reducible refine ((bgOf_any p _ hp.1 hp.2)).mono ?_); rintro e w1 ⟨b1, a1, n1, c1, rfl, h1, f1, hb1⟩; clear tok1 _t; have hz1 := hb1.size; (try simp only [World.size_alloc, World.size_setCell, World.size_drew, World.size_drewN'] at hz1); (try (have kq := cellAt hb1 (w.heap.size) (by go_size); have k1_w_0_0 := kq 0; have k1_w_0_1 := kq 1; have k1_w_0_2 := kq 2; have k1_w_0_3 := kq 3; clear kq; have f1_w_0 := frozAt hb1 (w.heap.size) (by go_size); simp [go_sem, *] at k1_w_0_0 k1_w_0_1 k1_w_0_2 k1_w_0_3 f1_w_0)); (try have l1_w_0 : w.heap.size < w1.heap.size := by omega)) | (have _t := tok2; go_at_call 107; (with_reducible refine ((bgOf_any q _ hq.1 hq.2)).mono ?_); rintro e w2 ⟨b2, a2, n2, c2, rfl, h2, f2, hb2⟩; clear tok2 _t; have hz2 := hb2.size; (try simp only [World.size_alloc, World.size_setCell, World.size_drew, World.size_drewN'] at hz2); (try (have kq := cellAt hb2 (w.heap.size) (by go_size); have k2_w_0_0 := kq 0; have k2_w_0_1 := kq 1; have k2_w_0_2 := kq 2; have k2_w_0_3 := kq 3; clear kq; have f2_w_0 := frozAt hb2 (w.heap.size) (by go_size); simp [go_sem, *] at k2_w_0_0 k2_w_0_1 k2_w_0_2 k2_w_0_3 f2_w_0)); (try have l2_w_0 : w.heap.size < w2.heap.size := by omega); (try clear k1_w_0_0 k1_w_0_1 k1_w_0_2 k1_w_0_3 f1_w_0); (try clear l1_w_0)))
  refine bodyPost_ret (v := .agg #[.bool b1, .slice a1 n1 c1, .bool b2, .slice a2 n2 c2]) (by simp [results, Tryz.results100, go_sem, *]) rfl ⟨_, _, _, _, _, _, _, _, rfl, ?_, ?_, ?_⟩
  · have H := (hb2.block (w.heap.size) (by omega)).trans ((hb1.block (w.heap.size) (by simp)).trans (heap_alloc_new w _))
    have h1' := h1.below hb2
    (repeat' first | (with_reducible first | assumption | (apply Ne.symm; assumption) | apply Nat.le_refl | apply Nat.le_add_right | apply zL | apply zRf | apply Wx.box | apply Wx.box4 | apply zWa | apply Wx.drew | apply zWn | apply bx_drew | apply bx_drewN | apply bx_set3 | apply bx_set2 | apply bx_set4 | apply bx_set1) | ((with_reducible apply bx_new); (focus (go_size; done))) | (with_reducible first | apply zOl | apply zFa | apply zDn | apply zDr | apply zAl | apply zSt | refine zVi (by assumption) ?_ ?_) | go_size | omega)
  · have H := (hb2.block (w.heap.size) (by omega)).trans ((hb1.block (w.heap.size) (by simp)).trans (heap_alloc_new w _))
    (repeat' first | (with_reducible first | assumption | (apply Ne.symm; assumption) | apply Nat.le_refl | apply Nat.le_add_right | apply zL | apply zRf | apply Wx.box | apply Wx.box4 | apply zWa | apply Wx.drew | apply zWn | apply bx_drew | apply bx_drewN | apply bx_set3 | apply bx_set2 | apply bx_set4 | apply bx_set1) | ((with_reducible apply bx_new); (focus (go_size; done))) | (with_reducible first | apply zOl | apply zFa | apply zDn | apply zDr | apply zAl | apply zSt | refine zVi (by assumption) ?_ ?_) | go_size | omega)
  · repeat' first | (with_reducible first | apply zRf | assumption | apply zDn | apply zDr | apply zAl | apply zSt | refine zVi (by assumption) ?_ ?_) | go_size
theorem xdBits_any (b b2 : Bool) (a a2 : Option Addr) (n c n2 c2 : Nat) (x z : Int) (w : World) (hx : Wx w b a n c x) (hz : Wx w b2 a2 n2 c2 z) (lx : ln x ≤ 80) (lz : ln z ≤ 80) :
    Calls Tryz.prog 89 #[.agg #[.bool b, .slice a n c, .bool b2, .slice a2 n2 c2]] w fun e w' => e = .returned (.int .i64 (bitsZ x z)) ∧ Below w.heap.size w w' := by
  have T1 : ∀ W, Below w.heap.size w W → Calls Tryz.prog 105 #[.agg #[.bool b, .slice a n c]] W fun e w' => e = .returned (.int .i64 (bl (ab x))) ∧ Below W.heap.size W w' := fun W hW => bgBits_any b a n c x W (hx.below hW) (by have := hx.ln; omega)
  have T2 : ∀ W, Below w.heap.size w W → Calls Tryz.prog 105 #[.agg #[.bool b2, .slice a2 n2 c2]] W fun e w' => e = .returned (.int .i64 (bl (ab z))) ∧ Below W.heap.size W w' := fun W hW => bgBits_any b2 a2 n2 c2 z W (hz.below hW) (by have := hz.ln; omega)
  have HB := Lib.hid (show most (bl (ab x) : Nat) (bl (ab z) : Nat) = bitsZ x z from rfl)
  generalize bl (ab x) = u1 at *
  generalize bl (ab z) = u2 at *
  go_enter Tryz.func89, Tryz.ntmps89
  go_wp2_with fail
  refine wp_drawn' (n := 7) (by kernel_rfl) (by kernel_rfl) (by kernel_rfl) ?_
  apply Exists.intro
  refine ⟨?_, ?_⟩
  · intro W hW
    try (have kx_w_0_0 := fun x => xcell hW (w.heap.size) (by go_size) x 0; simp [go_sem, *] at kx_w_0_0)
    try (have kx_w_0_1 := fun x => xcell hW (w.heap.size) (by go_size) x 1; simp [go_sem, *] at kx_w_0_1)
    try (have kx_w_0_2 := fun x => xcell hW (w.heap.size) (by go_size) x 2; simp [go_sem, *] at kx_w_0_2)
    try (have kx_w_0_3 := fun x => xcell hW (w.heap.size) (by go_size) x 3; simp [go_sem, *] at kx_w_0_3)
    simp only [List.take_succ_cons, List.take_zero]
    repeat (go_big_quiet_step ((first | (go_at_call 105; (with_reducible exact draw_of _ ((T1 _ (below_via (Over.lies _) (below_via hW (by repeat' first | (with_reducible first | apply zRf | assumption | apply zDn | apply zDr | apply zAl | apply zSt | refine zVi (by assumption) ?_ ?_) | go_size) (by go_size)) (by (have := hW.size; (try simp only [World.size_alloc, World.size_setCell, World.size_drew, World.size_drewN'] at this); omega))))))) | (go_at_call 105; (with_reducible exact draw_of _ ((T2 _ (below_via (Over.lies _) (below_via hW (by repeat' first | (with_reducible first | apply zRf | assumption | apply zDn | apply zDr | apply zAl | apply zSt | refine zVi (by assumption) ?_ ?_) | go_size) (by go_size)) (by (have := hW.size; (try simp only [World.size_alloc, World.size_setCell, World.size_drew, World.size_drewN'] at this); omega))))))) | (go_at_call 76; exact draw_of_same _ (l1Most_any _ _ _)))))
    exact wpQuiet_nil rfl
  intro w1 hb1
  simp only [List.drop_succ_cons, List.drop_zero, Act.put, List.setIfInBounds_toArray, List.set_cons_succ, List.set_cons_zero]
  have hz1 := hb1.size
  (try simp only [World.size_alloc, World.size_setCell, World.size_drew, World.size_drewN'] at hz1)
  (try (have kq := cellAt hb1 (w.heap.size) (by go_size); have k1_w_0_0 := kq 0; have k1_w_0_1 := kq 1; have k1_w_0_2 := kq 2; have k1_w_0_3 := kq 3; clear kq; have f1_w_0 := frozAt hb1 (w.heap.size) (by go_size); simp [go_sem, *] at k1_w_0_0 k1_w_0_1 k1_w_0_2 k1_w_0_3 f1_w_0))
  (try have l1_w_0 : w.heap.size < w1.heap.size := by omega)
  go_wp2_with fail
  go_ret
  refine ⟨ret_int HB.out, ?_⟩
  repeat' first | (with_reducible first | apply zRf | assumption | apply zDn | apply zDr | apply zAl | apply zSt | refine zVi (by assumption) ?_ ?_) | go_size
theorem xdDivisor_any (A B t s : Int) (b b2 : Bool) (a a2 : Option Addr) (n c n2 c2 : Nat) (w : World) (hA : -1000 ≤ A ∧ A ≤ 1000) (hBB : -10000 ≤ B ∧ B ≤ 10000) (hcv : coV A B ≠ 0) (ht : Wx w b a n c t) (hs : Wx w b2 a2 n2 c2 s) (lt' : ln t ≤ 8000) (ls' : ln s ≤ 8000) :
    Calls Tryz.prog 120 #[.agg #[.int .i64 A, .int .i64 B], .agg #[.bool b, .slice a n c], .agg #[.bool b2, .slice a2 n2 c2]] w fun e w' => e = .returned (.int .i64 (dvZ (4 * absI (coV A B)) t s)) ∧ Below w.heap.size w w' := by
  have hcb := coV_bd hA hBB
  have hab : 1 ≤ absI (coV A B) ∧ absI (coV A B) ≤ 6700000000 := by unfold absI; omega
  have T1 : ∀ W, Below w.heap.size w W → Calls Tryz.prog 121 #[.agg #[.bool b, .slice a n c], .int .i64 (4 * absI (coV A B))] W (NewQ W t (4 * absI (coV A B))) := fun W hW => bgOver_any b a n c t _ W (ht.below hW) (by have := ht.ln; omega) (by omega) (by omega)
  have T2 : ∀ W, Below w.heap.size w W → Calls Tryz.prog 121 #[.agg #[.bool b2, .slice a2 n2 c2], .int .i64 (4 * absI (coV A B))] W (NewQ W s (4 * absI (coV A B))) := fun W hW => bgOver_any b2 a2 n2 c2 s _ W (hs.below hW) (by have := hs.ln; omega) (by omega) (by omega)
  have DV := Lib.hid (dv_spec (n := 4 * absI (coV A B)) (t := t) (b := s) (by omega))
  have m1 := Int.emod_nonneg t (b := 4 * absI (coV A B)) (by omega)
  have m2 := Int.emod_lt_of_pos t (b := 4 * absI (coV A B)) (by omega)
  have m3 := Int.emod_nonneg s (b := 4 * absI (coV A B)) (by omega)
  have m4 := Int.emod_lt_of_pos s (b := 4 * absI (coV A B)) (by omega)
  have g1 := gcdI_nonneg (4 * absI (coV A B)) (t % (4 * absI (coV A B)))
  have g2 : gcdI (4 * absI (coV A B)) (t % (4 * absI (coV A B))) ≤ 4 * absI (coV A B) := by
    rw [gcdI_emod _ _ (by omega)]
    exact Int.le_of_dvd (by omega) (by unfold gcdI; exact Int.gcd_dvd_left ..)
  clear hcv
  have tok1 : True := trivial
  have tok2 : True := trivial
  have tok3 : True := trivial
  go_enter Tryz.func120, Tryz.ntmps120
  go_wp2_with (first | (have _t := tok1; go_at_call 70; refine (ecDisc_any A B _ hA hBB).mono ?_; rintro e w1 ⟨rfl, hb1⟩; clear tok1 _t; have hz1 := hb1.size; (try simp only [World.size_alloc, World.size_setCell, World.size_drew, World.size_drewN'] at hz1); (try (have kq := cellAt hb1 (w.heap.size) (by go_size); have k1_w_0_0 := kq 0; have k1_w_0_1 := kq 1; clear kq; have f1_w_0 := frozAt hb1 (w.heap.size) (by go_size); simp [go_sem, *] at k1_w_0_0 k1_w_0_1 f1_w_0)); (try have l1_w_0 : w.heap.size < w1.heap.size := by omega); (try (have kq := cellAt hb1 (w.heap.size + 1) (by go_size); have k1_w_1_0 := kq 0; have k1_w_1_1 := kq 1; clear kq; have f1_w_1 := frozAt hb1 (w.heap.size + 1) (by go_size); simp [go_sem, *] at k1_w_1_0 k1_w_1_1 f1_w_1)); (try have l1_w_1 : w.heap.size + 1 < w1.heap.size := by omega); (try (have kq := cellAt hb1 (w.heap.size + 1 + 1) (by go_size); have k1_w_2_0 := kq 0; have k1_w_2_1 := kq 1; clear kq; have f1_w_2 := frozAt hb1 (w.heap.size + 1 + 1) (by go_size); simp [go_sem, *] at k1_w_2_0 k1_w_2_1 f1_w_2)); (try have l1_w_2 : w.heap.size + 1 + 1 < w1.heap.size := by omega)) | (go_at_call 51; refine (l1Abs_any _ _ (by omega) (by omega)).mono ?_; rintro e w' ⟨rfl, rfl⟩) | (have _t := tok2; go_at_call 121; (with_reducible refine ((T1 _ (by repeat' first | (with_reducible first | apply zRf | assumption | apply zDn | apply zDr | apply zAl | apply zSt | refine zVi (by assumption) ?_ ?_) | go_size))).mono ?_); rintro e w2 ⟨b3, a3, n3, c3, rfl, h3, f3, hb2⟩; clear tok2 _t; have hz2 := hb2.size; (try simp only [World.size_alloc, World.size_setCell, World.size_drew, World.size_drewN'] at hz2); (try (have kq := cellAt hb2 (w.heap.size) (by go_size); have k2_w_0_0 := kq 0; have k2_w_0_1 := kq 1; clear kq; have f2_w_0 := frozAt hb2 (w.heap.size) (by go_size); simp [go_sem, *] at k2_w_0_0 k2_w_0_1 f2_w_0)); (try have l2_w_0 : w.heap.size < w2.heap.size := by omega); (try (have kq := cellAt hb2 (w.heap.size + 1) (by go_size); have k2_w_1_0 := kq 0; have k2_w_1_1 := kq 1; clear kq; have f2_w_1 := frozAt hb2 (w.heap.size + 1) (by go_size); simp [go_sem, *] at k2_w_1_0 k2_w_1_1 f2_w_1)); (try have l2_w_1 : w.heap.size + 1 < w2.heap.size := by omega); (try (have kq := cellAt hb2 (w.heap.size + 1 + 1) (by go_size); have k2_w_2_0 := kq 0; have k2_w_2_1 := kq 1; clear kq; have f2_w_2 := frozAt hb2 (w.heap.size + 1 + 1) (by go_size); simp [go_sem, *] at k2_w_2_0 k2_w_2_1 f2_w_2)); (try have l2_w_2 : w.heap.size + 1 + 1 < w2.heap.size := by omega); (try clear k1_w_0_0 k1_w_0_1 f1_w_0); (try clear l1_w_0); (try clear k1_w_1_0 k1_w_1_1 f1_w_1); (try clear l1_w_1); (try clear k1_w_2_0 k1_w_2_1 f1_w_2); (try clear l1_w_2)) | (have _t := tok3; go_at_call 121; (with_reducible refine ((T2 _ (by repeat' first | (with_reducible first | apply zRf | assumption | apply zDn | apply zDr | apply zAl | apply zSt | refine zVi (by assumption) ?_ ?_) | go_size))).mono ?_); rintro e w3 ⟨b4, a4, n4, c4, rfl, h4, f4, hb3⟩; clear tok3 _t; have hz3 := hb3.size; (try simp only [World.size_alloc, World.size_setCell, World.size_drew, World.size_drewN'] at hz3); (try (have kq := cellAt hb3 (w.heap.size) (by go_size); have k3_w_0_0 := kq 0; have k3_w_0_1 := kq 1; clear kq; have f3_w_0 := frozAt hb3 (w.heap.size) (by go_size); simp [go_sem, *] at k3_w_0_0 k3_w_0_1 f3_w_0)); (try have l3_w_0 : w.heap.size < w3.heap.size := by omega); (try (have kq := cellAt hb3 (w.heap.size + 1) (by go_size); have k3_w_1_0 := kq 0; have k3_w_1_1 := kq 1; clear kq; have f3_w_1 := frozAt hb3 (w.heap.size + 1) (by go_size); simp [go_sem, *] at k3_w_1_0 k3_w_1_1 f3_w_1)); (try have l3_w_1 : w.heap.size + 1 < w3.heap.size := by omega); (try (have kq := cellAt hb3 (w.heap.size + 1 + 1) (by go_size); have k3_w_2_0 := kq 0; have k3_w_2_1 := kq 1; clear kq; have f3_w_2 := frozAt hb3 (w.heap.size + 1 + 1) (by go_size); simp [go_sem, *] at k3_w_2_0 k3_w_2_1 f3_w_2)); (try have l3_w_2 : w.heap.size + 1 + 1 < w3.heap.size := by omega); (try clear k1_w_0_0 k1_w_0_1 f1_w_0); (try clear l1_w_0); (try clear k1_w_1_0 k1_w_1_1 f1_w_1); (try clear l1_w_1); (try clear k1_w_2_0 k1_w_2_1 f1_w_2); (try clear l1_w_2); (try clear k2_w_0_0 k2_w_0_1 f2_w_0); (try clear l2_w_0); (try clear k2_w_1_0 k2_w_1_1 f2_w_1); (try clear l2_w_1); (try clear k2_w_2_0 k2_w_2_1 f2_w_2); (try clear l2_w_2)) | (go_at_call 71; refine (common_any _ _ _ (by omega) (by omega) (by omega) (by omega)).mono ?_; rintro e w' ⟨rfl, nq, rfl⟩))
  go_ret
  refine ⟨ret_int DV.out, ?_⟩
  repeat' first | (with_reducible first | apply zRf | assumption | apply zDn | apply zDr | apply zAl | apply zSt | refine zVi (by assumption) ?_ ?_) | go_size
end
end Go.Proofs.YtgjppinjapdbeaaGreat
