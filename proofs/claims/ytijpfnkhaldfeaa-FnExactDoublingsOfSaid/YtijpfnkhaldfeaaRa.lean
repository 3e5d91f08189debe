/- Ratios that are valid: both sides. -/
import Derived.Test.YtijpfnkhaldfeaaWi8
import Derived.Test.YtijpfnkhaldfeaaXd3
namespace Go.Proofs.Ytijpfnkhaldfeaa
open Go.RowKit
set_option linter.unusedVariables false
set_option maxHeartbeats 1000000
set_option maxRecDepth 20000
set_option linter.unusedSimpArgs false
attribute [local go_sem] openAt openUpon
def rgB (b : Bool) (zs : List Int) (b2 : Bool) (ys : List Int) : Bool := gwB b zs && (gwB b2 ys && (decide (zs.length ≤ 80) && (inB ys.length 1 80 && !b2)))
theorem rg_self (x z : Int) : rgB (ngB x) (limbs (ab x)) (ngB z) (limbs (ab z)) = raB x z := by
  unfold rgB raB
  rw [gw_self, gw_self]
  change (decide (ln x ≤ 400) && (decide (ln z ≤ 400) && (decide (ln x ≤ 80) && (inB (ln z) 1 80 && !ngB z)))) = (decide (ln x ≤ 80) && (decide (ln z ≤ 80) && decide (0 < z)))
  have h0 := ln_zero (a := z)
  rw [Bool.eq_iff_iff]
  simp only [Bool.and_eq_true, decide_eq_true_eq, inB_iff, Bool.not_eq_true', ngB, decide_eq_false_iff_not]
  constructor
  · rintro ⟨h1, h2, h3, ⟨h4, h5⟩, h6⟩
    have : ln z ≠ 0 := by omega
    have : z ≠ 0 := fun e => this (h0.2 e)
    omega
  · rintro ⟨h1, h2, h3⟩
    have : ln z ≠ 0 := fun e => by have := h0.1 e; omega
    omega
theorem xdGood_all (b b2 : Bool) (a a2 : Option Addr) (n c n2 c2 : Nat) (zs ys : List Int) (w : World) (hs : Sx w a n c zs) (hs2 : Sx w a2 n2 c2 ys) :
    Calls Try.prog 29 #[.agg #[.bool b, .slice a n c, .bool b2, .slice a2 n2 c2]] w fun e w' => e = .returned (.bool (rgB b zs b2 ys)) ∧ Below w.heap.size w w' := by
  have T1 : ∀ W, Below w.heap.size w W → Calls Try.prog 41 #[.agg #[.bool b, .slice a n c]] W fun e w' => e = .returned (.bool (gwB b zs)) ∧ Below W.heap.size W w' := fun W hW => bgGood_all b a n c zs W (hs.below hW)
  have T2 : ∀ W, Below w.heap.size w W → Calls Try.prog 41 #[.agg #[.bool b2, .slice a2 n2 c2]] W fun e w' => e = .returned (.bool (gwB b2 ys)) ∧ Below W.heap.size W w' := fun W hW => bgGood_all b2 a2 n2 c2 ys W (hs2.below hW)
  have T3 := fun W : World => Lib.hid (l1In_any n2 1 80 W)
  have hn : n ≤ 9223372036854775807 := by have := hs.cap; have := hs.max; unfold maxLen at this; omega
  have hn2 : n2 ≤ 9223372036854775807 := by have := hs2.cap; have := hs2.max; unfold maxLen at this; omega
  have e1 := hs.len
  have e2 := hs2.len
  have HR := Lib.hid (show rgB b zs b2 ys = (gwB b zs && (gwB b2 ys && (decide (n ≤ 80) && (inB n2 1 80 && !b2)))) by unfold rgB; rw [e1, e2])
  clear e1 e2
  generalize rgB b zs b2 ys = R at *
  generalize gwB b zs = g1 at *
  generalize gwB b2 ys = g2 at *
  generalize inB n2 1 80 = g3 at *
  cases g1
  · have tok1 : True := trivial
    have tok2 : True := trivial
    go_enter Try.func29, Try.ntmps29
    go_wp2_with (first | (have _t := tok1; go_at_call 41; (with_reducible refine ((T1 _ (by repeat' first | (with_reducible first | apply zRf | assumption | apply zDn | apply zDr | apply zAl | apply zSt | refine zVi (by assumption) ?_ ?_) | go_size))).mono ?_); rintro e w1 ⟨rfl, hb1⟩; clear tok1 _t; have hz1 := hb1.size; (try simp only [World.size_alloc, World.size_setCell, World.size_drew, World.size_drewN'] at hz1); (try (have kq := cellAt hb1 (w.heap.size) (by go_size); have k1_w_0_0 := kq 0; have k1_w_0_1 := kq 1; have k1_w_0_2 := kq 2; have k1_w_0_3 := kq 3; clear kq; have f1_w_0 := frozAt hb1 (w.heap.size) (by go_size); simp [go_sem, *] at k1_w_0_0 k1_w_0_1 k1_w_0_2 k1_w_0_3 f1_w_0)); (try have l1_w_0 : w.heap.size < w1.heap.size := by omega)) | (have _t := tok2; go_at_call 41; (with_reducible refine ((T2 _ (by repeat' first | (with_reducible first | apply zRf | assumption | apply zDn | apply zDr | apply zAl | apply zSt | refine zVi (by assumption) ?_ ?_) | go_size))).mono ?_); rintro e w2 ⟨rfl, hb2⟩; clear tok2 _t; have hz2 := hb2.size; (try simp only [World.size_alloc, World.size_setCell, World.size_drew, World.size_drewN'] at hz2); (try (have kq := cellAt hb2 (w.heap.size) (by go_size); have k2_w_0_0 := kq 0; have k2_w_0_1 := kq 1; have k2_w_0_2 := kq 2; have k2_w_0_3 := kq 3; clear kq; have f2_w_0 := frozAt hb2 (w.heap.size) (by go_size); simp [go_sem, *] at k2_w_0_0 k2_w_0_1 k2_w_0_2 k2_w_0_3 f2_w_0)); (try have l2_w_0 : w.heap.size < w2.heap.size := by omega); (try clear k1_w_0_0 k1_w_0_1 k1_w_0_2 k1_w_0_3 f1_w_0); (try clear l1_w_0)) | (go_at_call 16; (with_reducible refine ((T3 _).out).mono ?_); rintro e w' ⟨rfl, rfl⟩))
    go_ret
    refine ⟨ret_bool (by rw [HR.out]; rfl), ?_⟩
    repeat' first | (with_reducible first | apply zRf | assumption | apply zDn | apply zDr | apply zAl | apply zSt | refine zVi (by assumption) ?_ ?_) | go_size
  · cases g2
    · have tok1 : True := trivial
      have tok2 : True := trivial
      go_enter Try.func29, Try.ntmps29
      go_wp2_with (first | (have _t := tok1; go_at_call 41; (with_reducible refine ((T1 _ (by repeat' first | (with_reducible first | apply zRf | assumption | apply zDn | apply zDr | apply zAl | apply zSt | refine zVi (by assumption) ?_ ?_) | go_size))).mono ?_); rintro e w1 ⟨rfl, hb1⟩; clear tok1 _t; have hz1 := hb1.size; (try simp only [World.size_alloc, World.size_setCell, World.size_drew, World.size_drewN'] at hz1); (try (have kq := cellAt hb1 (w.heap.size) (by go_size); have k1_w_0_0 := kq 0; have k1_w_0_1 := kq 1; have k1_w_0_2 := kq 2; have k1_w_0_3 := kq 3; clear kq; have f1_w_0 := frozAt hb1 (w.heap.size) (by go_size); simp [go_sem, *] at k1_w_0_0 k1_w_0_1 k1_w_0_2 k1_w_0_3 f1_w_0)); (try have l1_w_0 : w.heap.size < w1.heap.size := by omega)) | (have _t := tok2; go_at_call 41; (with_reducible refine ((T2 _ (by repeat' first | (with_reducible first | apply zRf | assumption | apply zDn | apply zDr | apply zAl | apply zSt | refine zVi (by assumption) ?_ ?_) | go_size))).mono ?_); rintro e w2 ⟨rfl, hb2⟩; clear tok2 _t; have hz2 := hb2.size; (try simp only [World.size_alloc, World.size_setCell, World.size_drew, World.size_drewN'] at hz2); (try (have kq := cellAt hb2 (w.heap.size) (by go_size); have k2_w_0_0 := kq 0; have k2_w_0_1 := kq 1; have k2_w_0_2 := kq 2; have k2_w_0_3 := kq 3; clear kq; have f2_w_0 := frozAt hb2 (w.heap.size) (by go_size); simp [go_sem, *] at k2_w_0_0 k2_w_0_1 k2_w_0_2 k2_w_0_3 f2_w_0)); (try have l2_w_0 : w.heap.size < w2.heap.size := by omega); (try clear k1_w_0_0 k1_w_0_1 k1_w_0_2 k1_w_0_3 f1_w_0); (try clear l1_w_0)) | (go_at_call 16; (with_reducible refine ((T3 _).out).mono ?_); rintro e w' ⟨rfl, rfl⟩))
      go_ret
      refine ⟨ret_bool (by rw [HR.out]; rfl), ?_⟩
      repeat' first | (with_reducible first | apply zRf | assumption | apply zDn | apply zDr | apply zAl | apply zSt | refine zVi (by assumption) ?_ ?_) | go_size
    · by_cases h80 : n ≤ 80
      · have h80' : (n : Int) ≤ 80 := by omega
        have HR' := Lib.hid (show R = (g3 && !b2) by rw [HR.out]; simp [h80])
        cases g3
        · have tok1 : True := trivial
          have tok2 : True := trivial
          go_enter Try.func29, Try.ntmps29
          go_wp2_with (first | (have _t := tok1; go_at_call 41; (with_reducible refine ((T1 _ (by repeat' first | (with_reducible first | apply zRf | assumption | apply zDn | apply zDr | apply zAl | apply zSt | refine zVi (by assumption) ?_ ?_) | go_size))).mono ?_); rintro e w1 ⟨rfl, hb1⟩; clear tok1 _t; have hz1 := hb1.size; (try simp only [World.size_alloc, World.size_setCell, World.size_drew, World.size_drewN'] at hz1); (try (have kq := cellAt hb1 (w.heap.size) (by go_size); have k1_w_0_0 := kq 0; have k1_w_0_1 := kq 1; have k1_w_0_2 := kq 2; have k1_w_0_3 := kq 3; clear kq; have f1_w_0 := frozAt hb1 (w.heap.size) (by go_size); simp [go_sem, *] at k1_w_0_0 k1_w_0_1 k1_w_0_2 k1_w_0_3 f1_w_0)); (try have l1_w_0 : w.heap.size < w1.heap.size := by omega)) | (have _t := tok2; go_at_call 41; (with_reducible refine ((T2 _ (by repeat' first | (with_reducible first | apply zRf | assumption | apply zDn | apply zDr | apply zAl | apply zSt | refine zVi (by assumption) ?_ ?_) | go_size))).mono ?_); rintro e w2 ⟨rfl, hb2⟩; clear tok2 _t; have hz2 := hb2.size; (try simp only [World.size_alloc, World.size_setCell, World.size_drew, World.size_drewN'] at hz2); (try (have kq := cellAt hb2 (w.heap.size) (by go_size); have k2_w_0_0 := kq 0; have k2_w_0_1 := kq 1; have k2_w_0_2 := kq 2; have k2_w_0_3 := kq 3; clear kq; have f2_w_0 := frozAt hb2 (w.heap.size) (by go_size); simp [go_sem, *] at k2_w_0_0 k2_w_0_1 k2_w_0_2 k2_w_0_3 f2_w_0)); (try have l2_w_0 : w.heap.size < w2.heap.size := by omega); (try clear k1_w_0_0 k1_w_0_1 k1_w_0_2 k1_w_0_3 f1_w_0); (try clear l1_w_0)) | (go_at_call 16; (with_reducible refine ((T3 _).out).mono ?_); rintro e w' ⟨rfl, rfl⟩))
          go_ret
          refine ⟨ret_bool (by rw [HR'.out]; rfl), ?_⟩
          repeat' first | (with_reducible first | apply zRf | assumption | apply zDn | apply zDr | apply zAl | apply zSt | refine zVi (by assumption) ?_ ?_) | go_size
        · have tok1 : True := trivial
          have tok2 : True := trivial
          go_enter Try.func29, Try.ntmps29
          go_wp2_with (first | (have _t := tok1; go_at_call 41; (with_reducible refine ((T1 _ (by repeat' first | (with_reducible first | apply zRf | assumption | apply zDn | apply zDr | apply zAl | apply zSt | refine zVi (by assumption) ?_ ?_) | go_size))).mono ?_); rintro e w1 ⟨rfl, hb1⟩; clear tok1 _t; have hz1 := hb1.size; (try simp only [World.size_alloc, World.size_setCell, World.size_drew, World.size_drewN'] at hz1); (try (have kq := cellAt hb1 (w.heap.size) (by go_size); have k1_w_0_0 := kq 0; have k1_w_0_1 := kq 1; have k1_w_0_2 := kq 2; have k1_w_0_3 := kq 3; clear kq; have f1_w_0 := frozAt hb1 (w.heap.size) (by go_size); simp [go_sem, *] at k1_w_0_0 k1_w_0_1 k1_w_0_2 k1_w_0_3 f1_w_0)); (try have l1_w_0 : w.heap.size < w1.heap.size := by omega)) | (have _t := tok2; go_at_call 41; (with_reducible refine ((T2 _ (by repeat' first | (with_reducible first | apply zRf | assumption | apply zDn | apply zDr | apply zAl | apply zSt | refine zVi (by assumption) ?_ ?_) | go_size))).mono ?_); rintro e w2 ⟨rfl, hb2⟩; clear tok2 _t; have hz2 := hb2.size; (try simp only [World.size_alloc, World.size_setCell, World.size_drew, World.size_drewN'] at hz2); (try (have kq := cellAt hb2 (w.heap.size) (by go_size); have k2_w_0_0 := kq 0; have k2_w_0_1 := kq 1; have k2_w_0_2 := kq 2; have k2_w_0_3 := kq 3; clear kq; have f2_w_0 := frozAt hb2 (w.heap.size) (by go_size); simp [go_sem, *] at k2_w_0_0 k2_w_0_1 k2_w_0_2 k2_w_0_3 f2_w_0)); (try have l2_w_0 : w.heap.size < w2.heap.size := by omega); (try clear k1_w_0_0 k1_w_0_1 k1_w_0_2 k1_w_0_3 f1_w_0); (try clear l1_w_0)) | (go_at_call 16; (with_reducible refine ((T3 _).out).mono ?_); rintro e w' ⟨rfl, rfl⟩))
          go_ret
          refine ⟨ret_bool (by rw [HR'.out]; simp), ?_⟩
          repeat' first | (with_reducible first | apply zRf | assumption | apply zDn | apply zDr | apply zAl | apply zSt | refine zVi (by assumption) ?_ ?_) | go_size
      · have h80' : ¬ (n : Int) ≤ 80 := by omega
        have HR' := Lib.hid (show R = false by rw [HR.out]; simp [h80])
        have tok1 : True := trivial
        have tok2 : True := trivial
        go_enter Try.func29, Try.ntmps29
        go_wp2_with (first | (have _t := tok1; go_at_call 41; (with_reducible refine ((T1 _ (by repeat' first | (with_reducible first | apply zRf | assumption | apply zDn | apply zDr | apply zAl | apply zSt | refine zVi (by assumption) ?_ ?_) | go_size))).mono ?_); rintro e w1 ⟨rfl, hb1⟩; clear tok1 _t; have hz1 := hb1.size; (try simp only [World.size_alloc, World.size_setCell, World.size_drew, World.size_drewN'] at hz1); (try (have kq := cellAt hb1 (w.heap.size) (by go_size); have k1_w_0_0 := kq 0; have k1_w_0_1 := kq 1; have k1_w_0_2 := kq 2; have k1_w_0_3 := kq 3; clear kq; have f1_w_0 := frozAt hb1 (w.heap.size) (by go_size); simp [go_sem, *] at k1_w_0_0 k1_w_0_1 k1_w_0_2 k1_w_0_3 f1_w_0)); (try have l1_w_0 : w.heap.size < w1.heap.size := by omega)) | (have _t := tok2; go_at_call 41; (with_reducible refine ((T2 _ (by repeat' first | (with_reducible first | apply zRf | assumption | apply zDn | apply zDr | apply zAl | apply zSt | refine zVi (by assumption) ?_ ?_) | go_size))).mono ?_); rintro e w2 ⟨rfl, hb2⟩; clear tok2 _t; have hz2 := hb2.size; (try simp only [World.size_alloc, World.size_setCell, World.size_drew, World.size_drewN'] at hz2); (try (have kq := cellAt hb2 (w.heap.size) (by go_size); have k2_w_0_0 := kq 0; have k2_w_0_1 := kq 1; have k2_w_0_2 := kq 2; have k2_w_0_3 := kq 3; clear kq; have f2_w_0 := frozAt hb2 (w.heap.size) (by go_size); simp [go_sem, *] at k2_w_0_0 k2_w_0_1 k2_w_0_2 k2_w_0_3 f2_w_0)); (try have l2_w_0 : w.heap.size < w2.heap.size := by omega); (try clear k1_w_0_0 k1_w_0_1 k1_w_0_2 k1_w_0_3 f1_w_0); (try clear l1_w_0)) | (go_at_call 16; (with_reducible refine ((T3 _).out).mono ?_); rintro e w' ⟨rfl, rfl⟩))
        go_ret
        refine ⟨ret_bool (by rw [HR'.out]), ?_⟩
        repeat' first | (with_reducible first | apply zRf | assumption | apply zDn | apply zDr | apply zAl | apply zSt | refine zVi (by assumption) ?_ ?_) | go_size
theorem xdGood_any (b b2 : Bool) (a a2 : Option Addr) (n c n2 c2 : Nat) (x z : Int) (w : World) (hx : Wx w b a n c x) (hz : Wx w b2 a2 n2 c2 z) :
    Calls Try.prog 29 #[.agg #[.bool b, .slice a n c, .bool b2, .slice a2 n2 c2]] w fun e w' => e = .returned (.bool (raB x z)) ∧ Below w.heap.size w w' := by
  have := xdGood_all b b2 a a2 n c n2 c2 _ _ w hx.row hz.row
  have e : rgB b (limbs (ab x)) b2 (limbs (ab z)) = raB x z := by rw [hx.neg, hz.neg]; exact rg_self x z
  rw [e] at this
  exact this
theorem isRatio_all (b b2 : Bool) (a a2 : Option Addr) (n c n2 c2 : Nat) (zs ys : List Int) (w : World) (hs : Sx w a n c zs) (hs2 : Sx w a2 n2 c2 ys) :
    Calls Try.prog 20 #[.agg #[.bool b, .slice a n c, .bool b2, .slice a2 n2 c2]] w fun e w' => e = .returned (.bool (rgB b zs b2 ys)) ∧ Below w.heap.size w w' := by
  have T1 : ∀ W, Below w.heap.size w W → Calls Try.prog 37 #[.agg #[.bool b, .slice a n c]] W fun e w' => e = .returned (.bool (gwB b zs)) ∧ Below W.heap.size W w' := fun W hW => isWhole_all b a n c zs W (hs.below hW)
  have T2 : ∀ W, Below w.heap.size w W → Calls Try.prog 37 #[.agg #[.bool b2, .slice a2 n2 c2]] W fun e w' => e = .returned (.bool (gwB b2 ys)) ∧ Below W.heap.size W w' := fun W hW => isWhole_all b2 a2 n2 c2 ys W (hs2.below hW)
  have T3 := fun W : World => Lib.hid (inside_any n2 1 80 W)
  have hn : n ≤ 9223372036854775807 := by have := hs.cap; have := hs.max; unfold maxLen at this; omega
  have hn2 : n2 ≤ 9223372036854775807 := by have := hs2.cap; have := hs2.max; unfold maxLen at this; omega
  have e1 := hs.len
  have e2 := hs2.len
  have HR := Lib.hid (show rgB b zs b2 ys = (gwB b zs && (gwB b2 ys && (decide (n ≤ 80) && (inB n2 1 80 && !b2)))) by unfold rgB; rw [e1, e2])
  clear e1 e2
  generalize rgB b zs b2 ys = R at *
  generalize gwB b zs = g1 at *
  generalize gwB b2 ys = g2 at *
  generalize inB n2 1 80 = g3 at *
  cases g1
  · have tok1 : True := trivial
    have tok2 : True := trivial
    go_enter Try.func20, Try.ntmps20
    go_wp2_with (first | (have _t := tok1; go_at_call 37; (with_reducible refine ((T1 _ (by repeat' first | (with_reducible first | apply zRf | assumption | apply zDn | apply zDr | apply zAl | apply zSt | refine zVi (by assumption) ?_ ?_) | go_size))).mono ?_); rintro e w1 ⟨rfl, hb1⟩; clear tok1 _t; have hz1 := hb1.size; (try simp only [World.size_alloc, World.size_setCell, World.size_drew, World.size_drewN'] at hz1); (try (have kq := cellAt hb1 (w.heap.size) (by go_size); have k1_w_0_0 := kq 0; have k1_w_0_1 := kq 1; have k1_w_0_2 := kq 2; have k1_w_0_3 := kq 3; clear kq; have f1_w_0 := frozAt hb1 (w.heap.size) (by go_size); simp [go_sem, *] at k1_w_0_0 k1_w_0_1 k1_w_0_2 k1_w_0_3 f1_w_0)); (try have l1_w_0 : w.heap.size < w1.heap.size := by omega)) | (have _t := tok2; go_at_call 37; (with_reducible refine ((T2 _ (by repeat' first | (with_reducible first | apply zRf | assumption | apply zDn | apply zDr | apply zAl | apply zSt | refine zVi (by assumption) ?_ ?_) | go_size))).mono ?_); rintro e w2 ⟨rfl, hb2⟩; clear tok2 _t; have hz2 := hb2.size; (try simp only [World.size_alloc, World.size_setCell, World.size_drew, World.size_drewN'] at hz2); (try (have kq := cellAt hb2 (w.heap.size) (by go_size); have k2_w_0_0 := kq 0; have k2_w_0_1 := kq 1; have k2_w_0_2 := kq 2; have k2_w_0_3 := kq 3; clear kq; have f2_w_0 := frozAt hb2 (w.heap.size) (by go_size); simp [go_sem, *] at k2_w_0_0 k2_w_0_1 k2_w_0_2 k2_w_0_3 f2_w_0)); (try have l2_w_0 : w.heap.size < w2.heap.size := by omega); (try clear k1_w_0_0 k1_w_0_1 k1_w_0_2 k1_w_0_3 f1_w_0); (try clear l1_w_0)) | (go_at_call 21; (with_reducible refine ((T3 _).out).mono ?_); rintro e w' ⟨rfl, rfl⟩))
    go_ret
    refine ⟨ret_bool (by rw [HR.out]; rfl), ?_⟩
    repeat' first | (with_reducible first | apply zRf | assumption | apply zDn | apply zDr | apply zAl | apply zSt | refine zVi (by assumption) ?_ ?_) | go_size
  · cases g2
    · have tok1 : True := trivial
      have tok2 : True := trivial
      go_enter Try.func20, Try.ntmps20
      go_wp2_with (first | (have _t := tok1; go_at_call 37; (with_reducible refine ((T1 _ (by repeat' first | (with_reducible first | apply zRf | assumption | apply zDn | apply zDr | apply zAl | apply zSt | refine zVi (by assumption) ?_ ?_) | go_size))).mono ?_); rintro e w1 ⟨rfl, hb1⟩; clear tok1 _t; have hz1 := hb1.size; (try simp only [World.size_alloc, World.size_setCell, World.size_drew, World.size_drewN'] at hz1); (try (have kq := cellAt hb1 (w.heap.size) (by go_size); have k1_w_0_0 := kq 0; have k1_w_0_1 := kq 1; have k1_w_0_2 := kq 2; have k1_w_0_3 := kq 3; clear kq; have f1_w_0 := frozAt hb1 (w.heap.size) (by go_size); simp [go_sem, *] at k1_w_0_0 k1_w_0_1 k1_w_0_2 k1_w_0_3 f1_w_0)); (try have l1_w_0 : w.heap.size < w1.heap.size := by omega)) | (have _t := tok2; go_at_call 37; (with_reducible refine ((T2 _ (by repeat' first | (with_reducible first | apply zRf | assumption | apply zDn | apply zDr | apply zAl | apply zSt | refine zVi (by assumption) ?_ ?_) | go_size))).mono ?_); rintro e w2 ⟨rfl, hb2⟩; clear tok2 _t; have hz2 := hb2.size; (try simp only [World.size_alloc, World.size_setCell, World.size_drew, World.size_drewN'] at hz2); (try (have kq := cellAt hb2 (w.heap.size) (by go_size); have k2_w_0_0 := kq 0; have k2_w_0_1 := kq 1; have k2_w_0_2 := kq 2; have k2_w_0_3 := kq 3; clear kq; have f2_w_0 := frozAt hb2 (w.heap.size) (by go_size); simp [go_sem, *] at k2_w_0_0 k2_w_0_1 k2_w_0_2 k2_w_0_3 f2_w_0)); (try have l2_w_0 : w.heap.size < w2.heap.size := by omega); (try clear k1_w_0_0 k1_w_0_1 k1_w_0_2 k1_w_0_3 f1_w_0); (try clear l1_w_0)) | (go_at_call 21; (with_reducible refine ((T3 _).out).mono ?_); rintro e w' ⟨rfl, rfl⟩))
      go_ret
      refine ⟨ret_bool (by rw [HR.out]; rfl), ?_⟩
      repeat' first | (with_reducible first | apply zRf | assumption | apply zDn | apply zDr | apply zAl | apply zSt | refine zVi (by assumption) ?_ ?_) | go_size
    · by_cases h80 : n ≤ 80
      · have h80' : (n : Int) ≤ 80 := by omega
        have HR' := Lib.hid (show R = (g3 && !b2) by rw [HR.out]; simp [h80])
        cases g3
        · have tok1 : True := trivial
          have tok2 : True := trivial
          go_enter Try.func20, Try.ntmps20
          go_wp2_with (first | (have _t := tok1; go_at_call 37; (with_reducible refine ((T1 _ (by repeat' first | (with_reducible first | apply zRf | assumption | apply zDn | apply zDr | apply zAl | apply zSt | refine zVi (by assumption) ?_ ?_) | go_size))).mono ?_); rintro e w1 ⟨rfl, hb1⟩; clear tok1 _t; have hz1 := hb1.size; (try simp only [World.size_alloc, World.size_setCell, World.size_drew, World.size_drewN'] at hz1); (try (have kq := cellAt hb1 (w.heap.size) (by go_size); have k1_w_0_0 := kq 0; have k1_w_0_1 := kq 1; have k1_w_0_2 := kq 2; have k1_w_0_3 := kq 3; clear kq; have f1_w_0 := frozAt hb1 (w.heap.size) (by go_size); simp [go_sem, *] at k1_w_0_0 k1_w_0_1 k1_w_0_2 k1_w_0_3 f1_w_0)); (try have l1_w_0 : w.heap.size < w1.heap.size := by omega)) | (have _t := tok2; go_at_call 37; (with_reducible refine ((T2 _ (by repeat' first | (with_reducible first | apply zRf | assumption | apply zDn | apply zDr | apply zAl | apply zSt | refine zVi (by assumption) ?_ ?_) | go_size))).mono ?_); rintro e w2 ⟨rfl, hb2⟩; clear tok2 _t; have hz2 := hb2.size; (try simp only [World.size_alloc, World.size_setCell, World.size_drew, World.size_drewN'] at hz2); (try (have kq := cellAt hb2 (w.heap.size) (by go_size); have k2_w_0_0 := kq 0; have k2_w_0_1 := kq 1; have k2_w_0_2 := kq 2; have k2_w_0_3 := kq 3; clear kq; have f2_w_0 := frozAt hb2 (w.heap.size) (by go_size); simp [go_sem, *] at k2_w_0_0 k2_w_0_1 k2_w_0_2 k2_w_0_3 f2_w_0)); (try have l2_w_0 : w.heap.size < w2.heap.size := by omega); (try clear k1_w_0_0 k1_w_0_1 k1_w_0_2 k1_w_0_3 f1_w_0); (try clear l1_w_0)) | (go_at_call 21; (with_reducible refine ((T3 _).out).mono ?_); rintro e w' ⟨rfl, rfl⟩))
          go_ret
          refine ⟨ret_bool (by rw [HR'.out]; rfl), ?_⟩
          repeat' first | (with_reducible first | apply zRf | assumption | apply zDn | apply zDr | apply zAl | apply zSt | refine zVi (by assumption) ?_ ?_) | go_size
        · have tok1 : True := trivial
          have tok2 : True := trivial
          go_enter Try.func20, Try.ntmps20
          go_wp2_with (first | (have _t := tok1; go_at_call 37; (with_reducible refine ((T1 _ (by repeat' first | (with_reducible first | apply zRf | assumption | apply zDn | apply zDr | apply zAl | apply zSt | refine zVi (by assumption) ?_ ?_) | go_size))).mono ?_); rintro e w1 ⟨rfl, hb1⟩; clear tok1 _t; have hz1 := hb1.size; (try simp only [World.size_alloc, World.size_setCell, World.size_drew, World.size_drewN'] at hz1); (try (have kq := cellAt hb1 (w.heap.size) (by go_size); have k1_w_0_0 := kq 0; have k1_w_0_1 := kq 1; have k1_w_0_2 := kq 2; have k1_w_0_3 := kq 3; clear kq; have f1_w_0 := frozAt hb1 (w.heap.size) (by go_size); simp [go_sem, *] at k1_w_0_0 k1_w_0_1 k1_w_0_2 k1_w_0_3 f1_w_0)); (try have l1_w_0 : w.heap.size < w1.heap.size := by omega)) | (have _t := tok2; go_at_call 37; (with_reducible refine ((T2 _ (by repeat' first | (with_reducible first | apply zRf | assumption | apply zDn | apply zDr | apply zAl | apply zSt | refine zVi (by assumption) ?_ ?_) | go_size))).mono ?_); rintro e w2 ⟨rfl, hb2⟩; clear tok2 _t; have hz2 := hb2.size; (try simp only [World.size_alloc, World.size_setCell, World.size_drew, World.size_drewN'] at hz2); (try (have kq := cellAt hb2 (w.heap.size) (by go_size); have k2_w_0_0 := kq 0; have k2_w_0_1 := kq 1; have k2_w_0_2 := kq 2; have k2_w_0_3 := kq 3; clear kq; have f2_w_0 := frozAt hb2 (w.heap.size) (by go_size); simp [go_sem, *] at k2_w_0_0 k2_w_0_1 k2_w_0_2 k2_w_0_3 f2_w_0)); (try have l2_w_0 : w.heap.size < w2.heap.size := by omega); (try clear k1_w_0_0 k1_w_0_1 k1_w_0_2 k1_w_0_3 f1_w_0); (try clear l1_w_0)) | (go_at_call 21; (with_reducible refine ((T3 _).out).mono ?_); rintro e w' ⟨rfl, rfl⟩))
          go_ret
          refine ⟨ret_bool (by rw [HR'.out]; simp), ?_⟩
          repeat' first | (with_reducible first | apply zRf | assumption | apply zDn | apply zDr | apply zAl | apply zSt | refine zVi (by assumption) ?_ ?_) | go_size
      · have h80' : ¬ (n : Int) ≤ 80 := by omega
        have HR' := Lib.hid (show R = false by rw [HR.out]; simp [h80])
        have tok1 : True := trivial
        have tok2 : True := trivial
        go_enter Try.func20, Try.ntmps20
        go_wp2_with (first | (have _t := tok1; go_at_call 37; (with_reducible refine ((T1 _ (by repeat' first | (with_reducible first | apply zRf | assumption | apply zDn | apply zDr | apply zAl | apply zSt | refine zVi (by assumption) ?_ ?_) | go_size))).mono ?_); rintro e w1 ⟨rfl, hb1⟩; clear tok1 _t; have hz1 := hb1.size; (try simp only [World.size_alloc, World.size_setCell, World.size_drew, World.size_drewN'] at hz1); (try (have kq := cellAt hb1 (w.heap.size) (by go_size); have k1_w_0_0 := kq 0; have k1_w_0_1 := kq 1; have k1_w_0_2 := kq 2; have k1_w_0_3 := kq 3; clear kq; have f1_w_0 := frozAt hb1 (w.heap.size) (by go_size); simp [go_sem, *] at k1_w_0_0 k1_w_0_1 k1_w_0_2 k1_w_0_3 f1_w_0)); (try have l1_w_0 : w.heap.size < w1.heap.size := by omega)) | (have _t := tok2; go_at_call 37; (with_reducible refine ((T2 _ (by repeat' first | (with_reducible first | apply zRf | assumption | apply zDn | apply zDr | apply zAl | apply zSt | refine zVi (by assumption) ?_ ?_) | go_size))).mono ?_); rintro e w2 ⟨rfl, hb2⟩; clear tok2 _t; have hz2 := hb2.size; (try simp only [World.size_alloc, World.size_setCell, World.size_drew, World.size_drewN'] at hz2); (try (have kq := cellAt hb2 (w.heap.size) (by go_size); have k2_w_0_0 := kq 0; have k2_w_0_1 := kq 1; have k2_w_0_2 := kq 2; have k2_w_0_3 := kq 3; clear kq; have f2_w_0 := frozAt hb2 (w.heap.size) (by go_size); simp [go_sem, *] at k2_w_0_0 k2_w_0_1 k2_w_0_2 k2_w_0_3 f2_w_0)); (try have l2_w_0 : w.heap.size < w2.heap.size := by omega); (try clear k1_w_0_0 k1_w_0_1 k1_w_0_2 k1_w_0_3 f1_w_0); (try clear l1_w_0)) | (go_at_call 21; (with_reducible refine ((T3 _).out).mono ?_); rintro e w' ⟨rfl, rfl⟩))
        go_ret
        refine ⟨ret_bool (by rw [HR'.out]), ?_⟩
        repeat' first | (with_reducible first | apply zRf | assumption | apply zDn | apply zDr | apply zAl | apply zSt | refine zVi (by assumption) ?_ ?_) | go_size
theorem isRatio_any (b b2 : Bool) (a a2 : Option Addr) (n c n2 c2 : Nat) (x z : Int) (w : World) (hx : Wx w b a n c x) (hz : Wx w b2 a2 n2 c2 z) :
    Calls Try.prog 20 #[.agg #[.bool b, .slice a n c, .bool b2, .slice a2 n2 c2]] w fun e w' => e = .returned (.bool (raB x z)) ∧ Below w.heap.size w w' := by
  have := isRatio_all b b2 a a2 n c n2 c2 _ _ w hx.row hz.row
  have e : rgB b (limbs (ab x)) b2 (limbs (ab z)) = raB x z := by rw [hx.neg, hz.neg]; exact rg_self x z
  rw [e] at this
  exact this
end Go.Proofs.Ytijpfnkhaldfeaa
