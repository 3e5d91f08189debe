/- Certificates: the laws' copies and comparisons, and the exported functions. -/
import Derived.Test.YtdcbpgpjiacomaaDoorCert2
namespace Go.Proofs.YtdcbpgpjiacomaaDoor
open Go.RowKit
set_option linter.unusedVariables false
set_option maxHeartbeats 1000000
set_option maxRecDepth 20000
set_option linter.unusedSimpArgs false
attribute [local go_sem] openAt openUpon
theorem SlA.set' {W : World} {a : Option Addr} {zs : List Int} (h : SlA W a zs) {g : Nat} (hg : ∀ A, a = some A → A.block ≠ g) (o : Nat) (v : Value) : SlA (W.setCell ⟨g, o, Option.none⟩ v) a zs := h.set hg o v
theorem Px.set {W : World} {a : Option Addr} {n c : Nat} {zs : List Int} (h : Px W a n c zs) {g : Nat} (hg : ∀ A, a = some A → A.block ≠ g) (o : Nat) (v : Value) : Px (W.setCell ⟨g, o, Option.none⟩ v) a n c zs := ⟨h.len, h.cap, h.max, h.row.set hg o v⟩
theorem Px.alloc {W : World} {a : Option Addr} {n c : Nat} {zs : List Int} (h : Px W a n c zs) (o : Obj) : Px (W.alloc o) a n c zs := h.below ((Below.refl _ _).alloc (Nat.le_refl _) o)
theorem idPoints_any (A B : Int) (a : Option Addr) (ln c : Nat) (zs : List Int) (w : World) (h : Px w a ln c zs) : Calls Tryd.prog 61 #[.agg #[.int .i64 A, .int .i64 B], .slice a ln c] w fun e w' => e = .returned (.bool (plB A B zs ln)) ∧ Below w.heap.size w w' := by
  have tok1 : True := trivial
  go_enter Tryd.func61, Tryd.ntmps61
  go_wp2_with (first | (have _t := tok1; go_at_call 78; refine (hpList_any A B a ln c zs _ (h.below (by repeat' first | (with_reducible first | apply zRf | assumption | apply zDn | apply zDr | apply zAl | apply zSt | refine zVi (by assumption) ?_ ?_) | go_size))).mono ?_; rintro e w1 ⟨rfl, hb1⟩; clear tok1 _t; have hz1 := hb1.size; (try simp only [World.size_alloc, World.size_setCell, World.size_drew, World.size_drewN'] at hz1); (try (have kq := cellAt hb1 (w.heap.size) (by go_size); have k1_w_0_0 := kq 0; have k1_w_0_1 := kq 1; clear kq; have f1_w_0 := frozAt hb1 (w.heap.size) (by go_size); simp [go_sem, *] at k1_w_0_0 k1_w_0_1 f1_w_0)); (try have l1_w_0 : w.heap.size < w1.heap.size := by omega)))
  go_ret
  refine ⟨rfl, ?_⟩
  repeat' first | (with_reducible first | apply zRf | assumption | apply zDn | apply zDr | apply zAl | apply zSt | refine zVi (by assumption) ?_ ?_) | go_size
theorem idGood_any (A B n d : Int) (a : Option Addr) (ln c : Nat) (zs : List Int) (w : World) (h : Px w a ln c zs) : Calls Tryd.prog 28 #[.agg #[.int .i64 A, .int .i64 B, .slice a ln c, .int .i64 n, .int .i64 d]] w fun e w' => e = .returned (.bool (ceB A B zs ln n d)) ∧ Below w.heap.size w w' := by
  have T1 : ∀ W : World, Below w.heap.size w W → Calls Tryd.prog 61 #[.agg #[.int .i64 A, .int .i64 B], .slice a ln c] W fun e w' => e = .returned (.bool (plB A B zs ln)) ∧ Below W.heap.size W w' := fun W hW => idPoints_any A B a ln c zs W (h.below hW)
  have T2 := fun W : World => Lib.hid (frGood_any n d W)
  cases h1 : plB A B zs ln
  · have HP := Lib.hid (show ceB A B zs ln n d = false by simp [ceB, h1])
    rw [h1] at T1
    clear h1
    have tok1 : True := trivial
    have tok2 : True := trivial
    go_enter Tryd.func28, Tryd.ntmps28
    go_wp2_with (first | (have _t := tok1; go_at_call 61; (with_reducible refine ((T1 _ (by repeat' first | (with_reducible first | apply zRf | assumption | apply zDn | apply zDr | apply zAl | apply zSt | refine zVi (by assumption) ?_ ?_) | go_size))).mono ?_); rintro e w1 ⟨rfl, hb1⟩; clear tok1 _t; have hz1 := hb1.size; (try simp only [World.size_alloc, World.size_setCell, World.size_drew, World.size_drewN'] at hz1); (try (have kq := cellAt hb1 (w.heap.size) (by go_size); have k1_w_0_0 := kq 0; have k1_w_0_1 := kq 1; have k1_w_0_2 := kq 2; have k1_w_0_3 := kq 3; have k1_w_0_4 := kq 4; clear kq; have f1_w_0 := frozAt hb1 (w.heap.size) (by go_size); simp [go_sem, *] at k1_w_0_0 k1_w_0_1 k1_w_0_2 k1_w_0_3 k1_w_0_4 f1_w_0)); (try have l1_w_0 : w.heap.size < w1.heap.size := by omega)) | (have _t := tok2; go_at_call 59; (with_reducible refine ((T2 _).out).mono ?_); rintro e w2 ⟨rfl, hb2⟩; clear tok2 _t; have hz2 := hb2.size; (try simp only [World.size_alloc, World.size_setCell, World.size_drew, World.size_drewN'] at hz2); (try (have kq := cellAt hb2 (w.heap.size) (by go_size); have k2_w_0_0 := kq 0; have k2_w_0_1 := kq 1; have k2_w_0_2 := kq 2; have k2_w_0_3 := kq 3; have k2_w_0_4 := kq 4; clear kq; have f2_w_0 := frozAt hb2 (w.heap.size) (by go_size); simp [go_sem, *] at k2_w_0_0 k2_w_0_1 k2_w_0_2 k2_w_0_3 k2_w_0_4 f2_w_0)); (try have l2_w_0 : w.heap.size < w2.heap.size := by omega); (try clear k1_w_0_0 k1_w_0_1 k1_w_0_2 k1_w_0_3 k1_w_0_4 f1_w_0); (try clear l1_w_0)))
    go_ret
    refine ⟨ret_bool HP.out.symm, ?_⟩
    repeat' first | (with_reducible first | apply zRf | assumption | apply zDn | apply zDr | apply zAl | apply zSt | refine zVi (by assumption) ?_ ?_) | go_size
  · cases h2 : frB n d
    · have HP := Lib.hid (show ceB A B zs ln n d = false by simp [ceB, h2])
      rw [h1] at T1
      rw [h2] at T2
      clear h1 h2
      have tok1 : True := trivial
      have tok2 : True := trivial
      go_enter Tryd.func28, Tryd.ntmps28
      go_wp2_with (first | (have _t := tok1; go_at_call 61; (with_reducible refine ((T1 _ (by repeat' first | (with_reducible first | apply zRf | assumption | apply zDn | apply zDr | apply zAl | apply zSt | refine zVi (by assumption) ?_ ?_) | go_size))).mono ?_); rintro e w1 ⟨rfl, hb1⟩; clear tok1 _t; have hz1 := hb1.size; (try simp only [World.size_alloc, World.size_setCell, World.size_drew, World.size_drewN'] at hz1); (try (have kq := cellAt hb1 (w.heap.size) (by go_size); have k1_w_0_0 := kq 0; have k1_w_0_1 := kq 1; have k1_w_0_2 := kq 2; have k1_w_0_3 := kq 3; have k1_w_0_4 := kq 4; clear kq; have f1_w_0 := frozAt hb1 (w.heap.size) (by go_size); simp [go_sem, *] at k1_w_0_0 k1_w_0_1 k1_w_0_2 k1_w_0_3 k1_w_0_4 f1_w_0)); (try have l1_w_0 : w.heap.size < w1.heap.size := by omega)) | (have _t := tok2; go_at_call 59; (with_reducible refine ((T2 _).out).mono ?_); rintro e w2 ⟨rfl, hb2⟩; clear tok2 _t; have hz2 := hb2.size; (try simp only [World.size_alloc, World.size_setCell, World.size_drew, World.size_drewN'] at hz2); (try (have kq := cellAt hb2 (w.heap.size) (by go_size); have k2_w_0_0 := kq 0; have k2_w_0_1 := kq 1; have k2_w_0_2 := kq 2; have k2_w_0_3 := kq 3; have k2_w_0_4 := kq 4; clear kq; have f2_w_0 := frozAt hb2 (w.heap.size) (by go_size); simp [go_sem, *] at k2_w_0_0 k2_w_0_1 k2_w_0_2 k2_w_0_3 k2_w_0_4 f2_w_0)); (try have l2_w_0 : w.heap.size < w2.heap.size := by omega); (try clear k1_w_0_0 k1_w_0_1 k1_w_0_2 k1_w_0_3 k1_w_0_4 f1_w_0); (try clear l1_w_0)))
      go_ret
      refine ⟨ret_bool HP.out.symm, ?_⟩
      repeat' first | (with_reducible first | apply zRf | assumption | apply zDn | apply zDr | apply zAl | apply zSt | refine zVi (by assumption) ?_ ?_) | go_size
    · have HP := Lib.hid (show ceB A B zs ln n d = decide (0 < n) by simp [ceB, h1, h2])
      rw [h1] at T1
      rw [h2] at T2
      clear h1 h2
      have tok1 : True := trivial
      have tok2 : True := trivial
      go_enter Tryd.func28, Tryd.ntmps28
      go_wp2_with (first | (have _t := tok1; go_at_call 61; (with_reducible refine ((T1 _ (by repeat' first | (with_reducible first | apply zRf | assumption | apply zDn | apply zDr | apply zAl | apply zSt | refine zVi (by assumption) ?_ ?_) | go_size))).mono ?_); rintro e w1 ⟨rfl, hb1⟩; clear tok1 _t; have hz1 := hb1.size; (try simp only [World.size_alloc, World.size_setCell, World.size_drew, World.size_drewN'] at hz1); (try (have kq := cellAt hb1 (w.heap.size) (by go_size); have k1_w_0_0 := kq 0; have k1_w_0_1 := kq 1; have k1_w_0_2 := kq 2; have k1_w_0_3 := kq 3; have k1_w_0_4 := kq 4; clear kq; have f1_w_0 := frozAt hb1 (w.heap.size) (by go_size); simp [go_sem, *] at k1_w_0_0 k1_w_0_1 k1_w_0_2 k1_w_0_3 k1_w_0_4 f1_w_0)); (try have l1_w_0 : w.heap.size < w1.heap.size := by omega)) | (have _t := tok2; go_at_call 59; (with_reducible refine ((T2 _).out).mono ?_); rintro e w2 ⟨rfl, hb2⟩; clear tok2 _t; have hz2 := hb2.size; (try simp only [World.size_alloc, World.size_setCell, World.size_drew, World.size_drewN'] at hz2); (try (have kq := cellAt hb2 (w.heap.size) (by go_size); have k2_w_0_0 := kq 0; have k2_w_0_1 := kq 1; have k2_w_0_2 := kq 2; have k2_w_0_3 := kq 3; have k2_w_0_4 := kq 4; clear kq; have f2_w_0 := frozAt hb2 (w.heap.size) (by go_size); simp [go_sem, *] at k2_w_0_0 k2_w_0_1 k2_w_0_2 k2_w_0_3 k2_w_0_4 f2_w_0)); (try have l2_w_0 : w.heap.size < w2.heap.size := by omega); (try clear k1_w_0_0 k1_w_0_1 k1_w_0_2 k1_w_0_3 k1_w_0_4 f1_w_0); (try clear l1_w_0)))
      go_ret
      refine ⟨ret_bool HP.out.symm, ?_⟩
      repeat' first | (with_reducible first | apply zRf | assumption | apply zDn | apply zDr | apply zAl | apply zSt | refine zVi (by assumption) ?_ ?_) | go_size
theorem szCertificate_any (A B n d left : Int) (a : Option Addr) (ln c : Nat) (w : World) (hlm : ln ≤ maxLen) (h1 : 0 ≤ left) (h2 : left ≤ 1048576) : Calls Tryd.prog 5 #[.agg #[.int .i64 A, .int .i64 B, .slice a ln c, .int .i64 n, .int .i64 d], .int .i64 left] w fun e w' => e = .returned (.int .i64 (if left - ln < 0 then -1 else left - ln)) ∧ Below w.heap.size w w' := by
  by_cases hl : left - ln < 0
  · have T := fun W : World => szPointS_any a ln c left W hlm h1 h2
    rw [if_pos hl] at T ⊢
    clear hl
    go_enter Tryd.func5, Tryd.ntmps5
    go_wp2_with (first | (go_at_call 27; (with_reducible refine ((T _)).mono ?_); rintro e w' ⟨rfl, rfl⟩))
    go_ret
    refine ⟨rfl, ?_⟩
    repeat' first | (with_reducible first | apply zRf | assumption | apply zDn | apply zDr | apply zAl | apply zSt | refine zVi (by assumption) ?_ ?_) | go_size
  · have T := fun W : World => szPointS_any a ln c left W hlm h1 h2
    rw [if_neg hl] at T ⊢
    generalize left - ln = v at *
    have hv : ¬ v < 0 := hl
    go_enter Tryd.func5, Tryd.ntmps5
    go_wp2_with (first | (go_at_call 27; (with_reducible refine ((T _)).mono ?_); rintro e w' ⟨rfl, rfl⟩))
    go_ret
    refine ⟨rfl, ?_⟩
    repeat' first | (with_reducible first | apply zRf | assumption | apply zDn | apply zDr | apply zAl | apply zSt | refine zVi (by assumption) ?_ ?_) | go_size
theorem eqCurve_same (x y : Int) (w : World) : Calls Tryd.prog 35 #[.agg #[.int .i64 x, .int .i64 y], .agg #[.int .i64 x, .int .i64 y]] w fun e w' => e = .returned (.bool true) ∧ Below w.heap.size w w' := by
  have e1 : (x != x) = false := by simp
  have e2 : (y != y) = false := by simp
  go_enter Tryd.func35, Tryd.ntmps35
  go_wp2
  go_ret
  refine ⟨rfl, ?_⟩
  repeat' first | (with_reducible first | apply zRf | assumption | apply zDn | apply zDr | apply zAl | apply zSt | refine zVi (by assumption) ?_ ?_) | go_size
theorem eqCertificate_same (A B n d : Int) (a a2 : Option Addr) (ln c ln2 c2 : Nat) (zs : List Int) (w : World) (h : Px w a ln c zs) (h2 : Px w a2 ln2 c2 zs) : Calls Tryd.prog 9 #[.agg #[.int .i64 A, .int .i64 B, .slice a ln c, .int .i64 n, .int .i64 d], .agg #[.int .i64 A, .int .i64 B, .slice a2 ln2 c2, .int .i64 n, .int .i64 d]] w fun e w' => e = .returned (.bool true) ∧ Below w.heap.size w w' := by
  have tok1 : True := trivial
  have tok2 : True := trivial
  have tok3 : True := trivial
  go_enter Tryd.func9, Tryd.ntmps9
  go_wp2_with (first | (have _t := tok1; go_at_call 35; refine (eqCurve_same _ _ _).mono ?_; rintro e w1 ⟨rfl, hb1⟩; clear tok1 _t; have hz1 := hb1.size; (try simp only [World.size_alloc, World.size_setCell, World.size_drew, World.size_drewN'] at hz1); (try (have kq := cellAt hb1 (w.heap.size) (by go_size); have k1_w_0_0 := kq 0; have k1_w_0_1 := kq 1; have k1_w_0_2 := kq 2; have k1_w_0_3 := kq 3; have k1_w_0_4 := kq 4; clear kq; have f1_w_0 := frozAt hb1 (w.heap.size) (by go_size); simp [go_sem, *] at k1_w_0_0 k1_w_0_1 k1_w_0_2 k1_w_0_3 k1_w_0_4 f1_w_0)); (try have l1_w_0 : w.heap.size < w1.heap.size := by omega); (try (have kq := cellAt hb1 (w.heap.size + 1) (by go_size); have k1_w_1_0 := kq 0; have k1_w_1_1 := kq 1; have k1_w_1_2 := kq 2; have k1_w_1_3 := kq 3; have k1_w_1_4 := kq 4; clear kq; have f1_w_1 := frozAt hb1 (w.heap.size + 1) (by go_size); simp [go_sem, *] at k1_w_1_0 k1_w_1_1 k1_w_1_2 k1_w_1_3 k1_w_1_4 f1_w_1)); (try have l1_w_1 : w.heap.size + 1 < w1.heap.size := by omega)) | (have _t := tok2; go_at_call 36; refine (eqPointS_same _ _ _ _ _ _ zs _ (h.below (by repeat' first | (with_reducible first | apply zRf | assumption | apply zDn | apply zDr | apply zAl | apply zSt | refine zVi (by assumption) ?_ ?_) | go_size)) (h2.below (by repeat' first | (with_reducible first | apply zRf | assumption | apply zDn | apply zDr | apply zAl | apply zSt | refine zVi (by assumption) ?_ ?_) | go_size))).mono ?_; rintro e w2 ⟨rfl, hb2⟩; clear tok2 _t; have hz2 := hb2.size; (try simp only [World.size_alloc, World.size_setCell, World.size_drew, World.size_drewN'] at hz2); (try (have kq := cellAt hb2 (w.heap.size) (by go_size); have k2_w_0_0 := kq 0; have k2_w_0_1 := kq 1; have k2_w_0_2 := kq 2; have k2_w_0_3 := kq 3; have k2_w_0_4 := kq 4; clear kq; have f2_w_0 := frozAt hb2 (w.heap.size) (by go_size); simp [go_sem, *] at k2_w_0_0 k2_w_0_1 k2_w_0_2 k2_w_0_3 k2_w_0_4 f2_w_0)); (try have l2_w_0 : w.heap.size < w2.heap.size := by omega); (try (have kq := cellAt hb2 (w.heap.size + 1) (by go_size); have k2_w_1_0 := kq 0; have k2_w_1_1 := kq 1; have k2_w_1_2 := kq 2; have k2_w_1_3 := kq 3; have k2_w_1_4 := kq 4; clear kq; have f2_w_1 := frozAt hb2 (w.heap.size + 1) (by go_size); simp [go_sem, *] at k2_w_1_0 k2_w_1_1 k2_w_1_2 k2_w_1_3 k2_w_1_4 f2_w_1)); (try have l2_w_1 : w.heap.size + 1 < w2.heap.size := by omega); (try clear k1_w_0_0 k1_w_0_1 k1_w_0_2 k1_w_0_3 k1_w_0_4 f1_w_0); (try clear l1_w_0); (try clear k1_w_1_0 k1_w_1_1 k1_w_1_2 k1_w_1_3 k1_w_1_4 f1_w_1); (try clear l1_w_1)) | (have _t := tok3; go_at_call 37; refine (eqFraction_same _ _ _).mono ?_; rintro e w3 ⟨rfl, hb3⟩; clear tok3 _t; have hz3 := hb3.size; (try simp only [World.size_alloc, World.size_setCell, World.size_drew, World.size_drewN'] at hz3); (try (have kq := cellAt hb3 (w.heap.size) (by go_size); have k3_w_0_0 := kq 0; have k3_w_0_1 := kq 1; have k3_w_0_2 := kq 2; have k3_w_0_3 := kq 3; have k3_w_0_4 := kq 4; clear kq; have f3_w_0 := frozAt hb3 (w.heap.size) (by go_size); simp [go_sem, *] at k3_w_0_0 k3_w_0_1 k3_w_0_2 k3_w_0_3 k3_w_0_4 f3_w_0)); (try have l3_w_0 : w.heap.size < w3.heap.size := by omega); (try (have kq := cellAt hb3 (w.heap.size + 1) (by go_size); have k3_w_1_0 := kq 0; have k3_w_1_1 := kq 1; have k3_w_1_2 := kq 2; have k3_w_1_3 := kq 3; have k3_w_1_4 := kq 4; clear kq; have f3_w_1 := frozAt hb3 (w.heap.size + 1) (by go_size); simp [go_sem, *] at k3_w_1_0 k3_w_1_1 k3_w_1_2 k3_w_1_3 k3_w_1_4 f3_w_1)); (try have l3_w_1 : w.heap.size + 1 < w3.heap.size := by omega); (try clear k1_w_0_0 k1_w_0_1 k1_w_0_2 k1_w_0_3 k1_w_0_4 f1_w_0); (try clear l1_w_0); (try clear k1_w_1_0 k1_w_1_1 k1_w_1_2 k1_w_1_3 k1_w_1_4 f1_w_1); (try clear l1_w_1); (try clear k2_w_0_0 k2_w_0_1 k2_w_0_2 k2_w_0_3 k2_w_0_4 f2_w_0); (try clear l2_w_0); (try clear k2_w_1_0 k2_w_1_1 k2_w_1_2 k2_w_1_3 k2_w_1_4 f2_w_1); (try clear l2_w_1)))
  go_ret
  refine ⟨rfl, ?_⟩
  repeat' first | (with_reducible first | apply zRf | assumption | apply zDn | apply zDr | apply zAl | apply zSt | refine zVi (by assumption) ?_ ?_) | go_size
def NewC (w : World) (A B n d : Int) (ln : Nat) (zs : List Int) (e : Ending) (w' : World) : Prop := ∃ g, e = .returned (.agg #[.int .i64 A, .int .i64 B, .slice (some ⟨g, 0, none⟩) ln ln, .int .i64 n, .int .i64 d]) ∧ Px w' (some ⟨g, 0, none⟩) ln ln zs ∧ w.heap.size ≤ g ∧ Below w.heap.size w w'
theorem toCertificate_any (A B n d : Int) (a : Option Addr) (ln c : Nat) (zs : List Int) (w : World) (h : Px w a ln c zs) (hn : ln ≤ 1048576) : Calls Tryd.prog 7 #[.agg #[.int .i64 A, .int .i64 B, .slice a ln c, .int .i64 n, .int .i64 d]] w (NewC w A B n d ln zs) := by
  have tok1 : True := trivial
  have tok2 : True := trivial
  have tok3 : True := trivial
  go_enter Tryd.func7, Tryd.ntmps7
  go_wp2_with (first | (have _t := tok1; go_at_call 30; refine (toCurve_any _ _ _).mono ?_; rintro e w1 ⟨rfl, hb1⟩; clear tok1 _t; have hz1 := hb1.size; (try simp only [World.size_alloc, World.size_setCell, World.size_drew, World.size_drewN'] at hz1); (try (have kq := cellAt hb1 (w.heap.size) (by go_size); have k1_w_0_0 := kq 0; have k1_w_0_1 := kq 1; have k1_w_0_2 := kq 2; have k1_w_0_3 := kq 3; have k1_w_0_4 := kq 4; clear kq; have f1_w_0 := frozAt hb1 (w.heap.size) (by go_size); simp [go_sem, *] at k1_w_0_0 k1_w_0_1 k1_w_0_2 k1_w_0_3 k1_w_0_4 f1_w_0)); (try have l1_w_0 : w.heap.size < w1.heap.size := by omega); (try (have kq := cellAt hb1 (w.heap.size + 1) (by go_size); have k1_w_1_0 := kq 0; have k1_w_1_1 := kq 1; have k1_w_1_2 := kq 2; have k1_w_1_3 := kq 3; have k1_w_1_4 := kq 4; clear kq; have f1_w_1 := frozAt hb1 (w.heap.size + 1) (by go_size); simp [go_sem, *] at k1_w_1_0 k1_w_1_1 k1_w_1_2 k1_w_1_3 k1_w_1_4 f1_w_1)); (try have l1_w_1 : w.heap.size + 1 < w1.heap.size := by omega); (try (have kq := cellAt hb1 (w.heap.size + 1 + 1) (by go_size); have k1_w_2_0 := kq 0; have k1_w_2_1 := kq 1; have k1_w_2_2 := kq 2; have k1_w_2_3 := kq 3; have k1_w_2_4 := kq 4; clear kq; have f1_w_2 := frozAt hb1 (w.heap.size + 1 + 1) (by go_size); simp [go_sem, *] at k1_w_2_0 k1_w_2_1 k1_w_2_2 k1_w_2_3 k1_w_2_4 f1_w_2)); (try have l1_w_2 : w.heap.size + 1 + 1 < w1.heap.size := by omega)) | (have _t := tok2; go_at_call 31; refine (toPointS_any a ln c zs _ (h.below (by repeat' first | (with_reducible first | apply zRf | assumption | apply zDn | apply zDr | apply zAl | apply zSt | refine zVi (by assumption) ?_ ?_) | go_size)) hn).mono ?_; rintro e w2 ⟨rfl, hp2, hl2, hb2⟩; clear tok2 _t; have hz2 := hb2.size; (try simp only [World.size_alloc, World.size_setCell, World.size_drew, World.size_drewN'] at hz2); (try (have kq := cellAt hb2 (w.heap.size) (by go_size); have k2_w_0_0 := kq 0; have k2_w_0_1 := kq 1; have k2_w_0_2 := kq 2; have k2_w_0_3 := kq 3; have k2_w_0_4 := kq 4; clear kq; have f2_w_0 := frozAt hb2 (w.heap.size) (by go_size); simp [go_sem, *] at k2_w_0_0 k2_w_0_1 k2_w_0_2 k2_w_0_3 k2_w_0_4 f2_w_0)); (try have l2_w_0 : w.heap.size < w2.heap.size := by omega); (try (have kq := cellAt hb2 (w.heap.size + 1) (by go_size); have k2_w_1_0 := kq 0; have k2_w_1_1 := kq 1; have k2_w_1_2 := kq 2; have k2_w_1_3 := kq 3; have k2_w_1_4 := kq 4; clear kq; have f2_w_1 := frozAt hb2 (w.heap.size + 1) (by go_size); simp [go_sem, *] at k2_w_1_0 k2_w_1_1 k2_w_1_2 k2_w_1_3 k2_w_1_4 f2_w_1)); (try have l2_w_1 : w.heap.size + 1 < w2.heap.size := by omega); (try (have kq := cellAt hb2 (w.heap.size + 1 + 1) (by go_size); have k2_w_2_0 := kq 0; have k2_w_2_1 := kq 1; have k2_w_2_2 := kq 2; have k2_w_2_3 := kq 3; have k2_w_2_4 := kq 4; clear kq; have f2_w_2 := frozAt hb2 (w.heap.size + 1 + 1) (by go_size); simp [go_sem, *] at k2_w_2_0 k2_w_2_1 k2_w_2_2 k2_w_2_3 k2_w_2_4 f2_w_2)); (try have l2_w_2 : w.heap.size + 1 + 1 < w2.heap.size := by omega); (try clear k1_w_0_0 k1_w_0_1 k1_w_0_2 k1_w_0_3 k1_w_0_4 f1_w_0); (try clear l1_w_0); (try clear k1_w_1_0 k1_w_1_1 k1_w_1_2 k1_w_1_3 k1_w_1_4 f1_w_1); (try clear l1_w_1); (try clear k1_w_2_0 k1_w_2_1 k1_w_2_2 k1_w_2_3 k1_w_2_4 f1_w_2); (try clear l1_w_2)) | (have _t := tok3; go_at_call 32; refine (toFraction_any _ _ _).mono ?_; rintro e w3 ⟨rfl, hb3⟩; clear tok3 _t; have hz3 := hb3.size; (try simp only [World.size_alloc, World.size_setCell, World.size_drew, World.size_drewN'] at hz3); (try (have kq := cellAt hb3 (w.heap.size) (by go_size); have k3_w_0_0 := kq 0; have k3_w_0_1 := kq 1; have k3_w_0_2 := kq 2; have k3_w_0_3 := kq 3; have k3_w_0_4 := kq 4; clear kq; have f3_w_0 := frozAt hb3 (w.heap.size) (by go_size); simp [go_sem, *] at k3_w_0_0 k3_w_0_1 k3_w_0_2 k3_w_0_3 k3_w_0_4 f3_w_0)); (try have l3_w_0 : w.heap.size < w3.heap.size := by omega); (try (have kq := cellAt hb3 (w.heap.size + 1) (by go_size); have k3_w_1_0 := kq 0; have k3_w_1_1 := kq 1; have k3_w_1_2 := kq 2; have k3_w_1_3 := kq 3; have k3_w_1_4 := kq 4; clear kq; have f3_w_1 := frozAt hb3 (w.heap.size + 1) (by go_size); simp [go_sem, *] at k3_w_1_0 k3_w_1_1 k3_w_1_2 k3_w_1_3 k3_w_1_4 f3_w_1)); (try have l3_w_1 : w.heap.size + 1 < w3.heap.size := by omega); (try (have kq := cellAt hb3 (w.heap.size + 1 + 1) (by go_size); have k3_w_2_0 := kq 0; have k3_w_2_1 := kq 1; have k3_w_2_2 := kq 2; have k3_w_2_3 := kq 3; have k3_w_2_4 := kq 4; clear kq; have f3_w_2 := frozAt hb3 (w.heap.size + 1 + 1) (by go_size); simp [go_sem, *] at k3_w_2_0 k3_w_2_1 k3_w_2_2 k3_w_2_3 k3_w_2_4 f3_w_2)); (try have l3_w_2 : w.heap.size + 1 + 1 < w3.heap.size := by omega); (try clear k1_w_0_0 k1_w_0_1 k1_w_0_2 k1_w_0_3 k1_w_0_4 f1_w_0); (try clear l1_w_0); (try clear k1_w_1_0 k1_w_1_1 k1_w_1_2 k1_w_1_3 k1_w_1_4 f1_w_1); (try clear l1_w_1); (try clear k1_w_2_0 k1_w_2_1 k1_w_2_2 k1_w_2_3 k1_w_2_4 f1_w_2); (try clear l1_w_2); (try clear k2_w_0_0 k2_w_0_1 k2_w_0_2 k2_w_0_3 k2_w_0_4 f2_w_0); (try clear l2_w_0); (try clear k2_w_1_0 k2_w_1_1 k2_w_1_2 k2_w_1_3 k2_w_1_4 f2_w_1); (try clear l2_w_1); (try clear k2_w_2_0 k2_w_2_1 k2_w_2_2 k2_w_2_3 k2_w_2_4 f2_w_2); (try clear l2_w_2)))
  simp only [World.size_setCell] at hp2 hl2
  have hp3 : Px w3 (some ⟨w1.heap.size, 0, none⟩) ln ln zs := (hp2.set (g := w.heap.size + 1 + 1) (fun A e => by cases e; show w1.heap.size ≠ _; omega) _ _).below hb3
  refine bodyPost_ret (v := .agg #[.int .i64 A, .int .i64 B, .slice (some ⟨w1.heap.size, 0, none⟩) ln ln, .int .i64 n, .int .i64 d]) (by simp [results, Tryd.results7, go_sem, *]) rfl ⟨w1.heap.size, rfl, ?_, by omega, ?_⟩
  · repeat' first | (with_reducible exact hp3) | (with_reducible refine Px.set ?_ ?_ _ _) | (intro A e; cases e; show w1.heap.size ≠ _; omega)
  · repeat' first | (with_reducible first | apply zRf | assumption | apply zDn | apply zDr | apply zAl | apply zSt | refine zVi (by assumption) ?_ ?_) | go_size
/-- a certificate whose list lies in new memory, or in the given one -/
def openCert (A B n d : Int) (ln : Nat) (zs : List Int) : St where
  ok v W := ∃ a c, v = .agg #[.int .i64 A, .int .i64 B, .slice a ln c, .int .i64 n, .int .i64 d] ∧ Px W a ln c zs
  keep v W W2 h hb := by
    obtain ⟨a, c, h1, h2⟩ := h
    exact ⟨a, c, h1, h2.below hb⟩
theorem eqCert_open (A B n d : Int) (a : Option Addr) (ln c : Nat) (zs : List Int) (v : Value) (w : World) (h : Px w a ln c zs) (hv : (openCert A B n d ln zs).ok v w) : Calls Tryd.prog 9 #[.agg #[.int .i64 A, .int .i64 B, .slice a ln c, .int .i64 n, .int .i64 d], v] w fun e w' => e = .returned (.bool true) ∧ Below w.heap.size w w' := by
  obtain ⟨a2, c2, rfl, h2⟩ := hv
  exact eqCertificate_same A B n d a a2 ln c ln c2 zs w h h2
end Go.Proofs.YtdcbpgpjiacomaaDoor
