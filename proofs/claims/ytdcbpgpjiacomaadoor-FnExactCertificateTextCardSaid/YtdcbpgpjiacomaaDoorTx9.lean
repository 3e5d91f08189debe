/- CertificateText, both sides, and the walk of its law. -/
import Derived.Test.YtdcbpgpjiacomaaDoorTx8
import Derived.Test.YtdcbpgpjiacomaaDoorCert3
namespace Go.Proofs.YtdcbpgpjiacomaaDoor
open Go.RowKit
set_option linter.unusedVariables false
set_option maxHeartbeats 4000000
set_option maxRecDepth 20000
set_option linter.unusedSimpArgs false
attribute [local go_sem] openAt openUpon
/-- what both sides return -/
def cxS (A B : Int) (zs : List Int) (ln : Nat) (n d : Int) : List UInt8 := if ceB A B zs ln n d = true then ceT A B zs ln n d else []
theorem ce_facts {A B n d : Int} {zs : List Int} {ln : Nat} (h : ceB A B zs ln n d = true) : (-9223372036854775807 ≤ A ∧ A ≤ 9223372036854775807) ∧ (-9223372036854775807 ≤ B ∧ B ≤ 9223372036854775807) ∧ (-9223372036854775807 ≤ n ∧ n ≤ 9223372036854775807) ∧ (1 ≤ d ∧ d ≤ 9223372036854775807) ∧ ln ≤ 4 ∧ ptOk zs ln := by
  simp only [ceB, plB, Bool.and_eq_true, decide_eq_true_eq] at h
  obtain ⟨⟨hc, hl, hp⟩, hf, hn0⟩ := h
  have hp2 : ∀ j, j < ln → ptAt A B zs j = true := by
    simp only [ptsB, List.all_eq_true] at hp
    intro j hj
    exact hp j (by simpa using hj)
  have hc2 := hc
  simp only [cvB, Bool.and_eq_true, inB_iff] at hc2
  rw [inB_iff] at hl
  refine ⟨by omega, by omega, ?_, ?_, by omega, fun j hj => ?_⟩
  · have := frB_bd hf; omega
  · have := frB_bd hf; omega
  · have := pt_text hc (hp2 j hj)
    omega
theorem sCertificateText_any (A B n d : Int) (a : Option Addr) (ln c : Nat) (zs : List Int) (w : World) (h : Px w a ln c zs) : Calls Tryd.prog 6 #[.agg #[.int .i64 A, .int .i64 B, .slice a ln c, .int .i64 n, .int .i64 d]] w fun e w' =>
    e = .returned (.tuple #[.string ⟨(cxS A B zs ln n d).toArray⟩, .bool (ceB A B zs ln n d)]) ∧ Below w.heap.size w w' := by
  have TG : ∀ W : World, Below w.heap.size w W → Calls Tryd.prog 28 #[.agg #[.int .i64 A, .int .i64 B, .slice a ln c, .int .i64 n, .int .i64 d]] W fun e w' => e = .returned (.bool (ceB A B zs ln n d)) ∧ Below W.heap.size W w' := fun W hW => idGood_any A B n d a ln c zs W (h.below hW)
  rcases hg : ceB A B zs ln n d with _ | _
  · rw [hg] at TG
    rw [show cxS A B zs ln n d = [] from if_neg (by simp [hg])]
    clear hg
    have TT := TG
    have tok1 : True := trivial
    have tok2 : True := trivial
    go_enter Tryd.func6, Tryd.ntmps6
    go_wp2_with (first | (have _t := tok1; go_at_call 28; (with_reducible refine ((TG _ (by repeat' first | (with_reducible first | apply zRf | assumption | apply zDn | apply zDr | apply zAl | apply zSt | refine zVi (by assumption) ?_ ?_) | go_size))).mono ?_); rintro e w1 ⟨rfl, hb1⟩; clear tok1 _t; have hz1 := hb1.size; (try simp only [World.size_alloc, World.size_setCell, World.size_drew, World.size_drewN'] at hz1); (try (have kq := cellAt hb1 (w.heap.size) (by go_size); have k1_w_0_0 := kq 0; have k1_w_0_1 := kq 1; have k1_w_0_2 := kq 2; have k1_w_0_3 := kq 3; have k1_w_0_4 := kq 4; clear kq; have f1_w_0 := frozAt hb1 (w.heap.size) (by go_size); simp [go_sem, *] at k1_w_0_0 k1_w_0_1 k1_w_0_2 k1_w_0_3 k1_w_0_4 f1_w_0)); (try have l1_w_0 : w.heap.size < w1.heap.size := by omega); (try (have kq := cellAt hb1 (w.heap.size) (by go_size); have k1_w_0_0 := kq 0; have k1_w_0_1 := kq 1; have k1_w_0_2 := kq 2; have k1_w_0_3 := kq 3; have k1_w_0_4 := kq 4; clear kq; have f1_w_0 := frozAt hb1 (w.heap.size) (by go_size); simp [go_sem, *] at k1_w_0_0 k1_w_0_1 k1_w_0_2 k1_w_0_3 k1_w_0_4 f1_w_0)); (try have l1_w_0 : w.heap.size < w1.heap.size := by omega)) | (have _t := tok2; go_at_call 29; (with_reducible refine ((TT _ (by repeat' first | (with_reducible first | apply zRf | assumption | apply zDn | apply zDr | apply zAl | apply zSt | refine zVi (by assumption) ?_ ?_) | go_size))).mono ?_); rintro e w2 ⟨rfl, hb2⟩; clear tok2 _t; have hz2 := hb2.size; (try simp only [World.size_alloc, World.size_setCell, World.size_drew, World.size_drewN'] at hz2); (try (have kq := cellAt hb2 (w.heap.size) (by go_size); have k2_w_0_0 := kq 0; have k2_w_0_1 := kq 1; have k2_w_0_2 := kq 2; have k2_w_0_3 := kq 3; have k2_w_0_4 := kq 4; clear kq; have f2_w_0 := frozAt hb2 (w.heap.size) (by go_size); simp [go_sem, *] at k2_w_0_0 k2_w_0_1 k2_w_0_2 k2_w_0_3 k2_w_0_4 f2_w_0)); (try have l2_w_0 : w.heap.size < w2.heap.size := by omega); (try (have kq := cellAt hb2 (w.heap.size) (by go_size); have k2_w_0_0 := kq 0; have k2_w_0_1 := kq 1; have k2_w_0_2 := kq 2; have k2_w_0_3 := kq 3; have k2_w_0_4 := kq 4; clear kq; have f2_w_0 := frozAt hb2 (w.heap.size) (by go_size); simp [go_sem, *] at k2_w_0_0 k2_w_0_1 k2_w_0_2 k2_w_0_3 k2_w_0_4 f2_w_0)); (try have l2_w_0 : w.heap.size < w2.heap.size := by omega); (try clear k1_w_0_0 k1_w_0_1 k1_w_0_2 k1_w_0_3 k1_w_0_4 f1_w_0); (try clear l1_w_0); (try clear k1_w_0_0 k1_w_0_1 k1_w_0_2 k1_w_0_3 k1_w_0_4 f1_w_0); (try clear l1_w_0)))
    go_ret2
    refine ⟨rfl, ?_⟩
    repeat' first | (with_reducible first | apply zRf | assumption | apply zDn | apply zDr | apply zAl | apply zSt | refine zVi (by assumption) ?_ ?_) | go_size
  · obtain ⟨b1, b2, b3, b4, b5, b6⟩ := ce_facts hg
    have TT : ∀ W : World, Below w.heap.size w W → Calls Tryd.prog 29 #[.agg #[.int .i64 A, .int .i64 B, .slice a ln c, .int .i64 n, .int .i64 d]] W fun e w' => e = .returned (.string ⟨(ceT A B zs ln n d).toArray⟩) ∧ Below W.heap.size W w' := fun W hW => idText_any A B n d a ln c zs W (h.below hW) b1 b2 b3 b4 b5 b6
    rw [show cxS A B zs ln n d = ceT A B zs ln n d from if_pos hg]
    rw [hg] at TG
    clear hg b1 b2 b3 b4 b5 b6
    generalize ceT A B zs ln n d = D at *
    have tok1 : True := trivial
    have tok2 : True := trivial
    go_enter Tryd.func6, Tryd.ntmps6
    go_wp2_with (first | (have _t := tok1; go_at_call 28; (with_reducible refine ((TG _ (by repeat' first | (with_reducible first | apply zRf | assumption | apply zDn | apply zDr | apply zAl | apply zSt | refine zVi (by assumption) ?_ ?_) | go_size))).mono ?_); rintro e w1 ⟨rfl, hb1⟩; clear tok1 _t; have hz1 := hb1.size; (try simp only [World.size_alloc, World.size_setCell, World.size_drew, World.size_drewN'] at hz1); (try (have kq := cellAt hb1 (w.heap.size) (by go_size); have k1_w_0_0 := kq 0; have k1_w_0_1 := kq 1; have k1_w_0_2 := kq 2; have k1_w_0_3 := kq 3; have k1_w_0_4 := kq 4; clear kq; have f1_w_0 := frozAt hb1 (w.heap.size) (by go_size); simp [go_sem, *] at k1_w_0_0 k1_w_0_1 k1_w_0_2 k1_w_0_3 k1_w_0_4 f1_w_0)); (try have l1_w_0 : w.heap.size < w1.heap.size := by omega); (try (have kq := cellAt hb1 (w.heap.size) (by go_size); have k1_w_0_0 := kq 0; have k1_w_0_1 := kq 1; have k1_w_0_2 := kq 2; have k1_w_0_3 := kq 3; have k1_w_0_4 := kq 4; clear kq; have f1_w_0 := frozAt hb1 (w.heap.size) (by go_size); simp [go_sem, *] at k1_w_0_0 k1_w_0_1 k1_w_0_2 k1_w_0_3 k1_w_0_4 f1_w_0)); (try have l1_w_0 : w.heap.size < w1.heap.size := by omega)) | (have _t := tok2; go_at_call 29; (with_reducible refine ((TT _ (by repeat' first | (with_reducible first | apply zRf | assumption | apply zDn | apply zDr | apply zAl | apply zSt | refine zVi (by assumption) ?_ ?_) | go_size))).mono ?_); rintro e w2 ⟨rfl, hb2⟩; clear tok2 _t; have hz2 := hb2.size; (try simp only [World.size_alloc, World.size_setCell, World.size_drew, World.size_drewN'] at hz2); (try (have kq := cellAt hb2 (w.heap.size) (by go_size); have k2_w_0_0 := kq 0; have k2_w_0_1 := kq 1; have k2_w_0_2 := kq 2; have k2_w_0_3 := kq 3; have k2_w_0_4 := kq 4; clear kq; have f2_w_0 := frozAt hb2 (w.heap.size) (by go_size); simp [go_sem, *] at k2_w_0_0 k2_w_0_1 k2_w_0_2 k2_w_0_3 k2_w_0_4 f2_w_0)); (try have l2_w_0 : w.heap.size < w2.heap.size := by omega); (try (have kq := cellAt hb2 (w.heap.size) (by go_size); have k2_w_0_0 := kq 0; have k2_w_0_1 := kq 1; have k2_w_0_2 := kq 2; have k2_w_0_3 := kq 3; have k2_w_0_4 := kq 4; clear kq; have f2_w_0 := frozAt hb2 (w.heap.size) (by go_size); simp [go_sem, *] at k2_w_0_0 k2_w_0_1 k2_w_0_2 k2_w_0_3 k2_w_0_4 f2_w_0)); (try have l2_w_0 : w.heap.size < w2.heap.size := by omega); (try clear k1_w_0_0 k1_w_0_1 k1_w_0_2 k1_w_0_3 k1_w_0_4 f1_w_0); (try clear l1_w_0); (try clear k1_w_0_0 k1_w_0_1 k1_w_0_2 k1_w_0_3 k1_w_0_4 f1_w_0); (try clear l1_w_0)))
    go_ret2
    refine ⟨rfl, ?_⟩
    repeat' first | (with_reducible first | apply zRf | assumption | apply zDn | apply zDr | apply zAl | apply zSt | refine zVi (by assumption) ?_ ?_) | go_size
theorem CertificateText_any (A B n d : Int) (a : Option Addr) (ln c : Nat) (zs : List Int) (w0 w : World) (h : Px w a ln c zs) (ht : Lib.TabIs Tryd.prog w0 "internal/strconv.uint64pow10" .u64 Lib.pow10Tab) (hb : Below w0.heap.size w0 w) : Calls Tryd.prog 8 #[.agg #[.int .i64 A, .int .i64 B, .slice a ln c, .int .i64 n, .int .i64 d]] w fun e w' =>
    e = .returned (.tuple #[.string ⟨(cxS A B zs ln n d).toArray⟩, .bool (ceB A B zs ln n d)]) ∧ Below w.heap.size w w' := by
  have hs0 := hb.size
  rcases hg : ceB A B zs ln n d with _ | _
  · rw [show cxS A B zs ln n d = [] from if_neg (by simp [hg])]
    have IC := fun W gb h k0 k1 k2 k3 k4 hgb => isCertificate_any A B n d a ln c gb zs W h k0 k1 k2 k3 k4 hgb
    rw [hg] at IC
    clear hg ht hb
    have tok1 : True := trivial
    have tok2 : True := trivial
    go_enter Tryd.func8, Tryd.ntmps8
    go_wp2_with (first | (have _t := tok1; go_at_call 33; (with_reducible refine ((IC _ w.heap.size (h.below (by repeat' first | (with_reducible first | apply zRf | assumption | apply zDn | apply zDr | apply zAl | apply zSt | refine zVi (by assumption) ?_ ?_) | go_size)) (by simp [go_sem]) (by simp [go_sem]) (by simp [go_sem]) (by simp [go_sem]) (by simp [go_sem]) (by simp))).mono ?_); rintro e w1 ⟨rfl, hb1⟩; clear tok1 _t; have hz1 := hb1.size; (try simp only [World.size_alloc, World.size_setCell, World.size_drew, World.size_drewN'] at hz1); (try (have kq := cellAt hb1 (w.heap.size) (by go_size); have k1_w_0_0 := kq 0; have k1_w_0_1 := kq 1; have k1_w_0_2 := kq 2; have k1_w_0_3 := kq 3; have k1_w_0_4 := kq 4; clear kq; have f1_w_0 := frozAt hb1 (w.heap.size) (by go_size); simp [go_sem, *] at k1_w_0_0 k1_w_0_1 k1_w_0_2 k1_w_0_3 k1_w_0_4 f1_w_0)); (try have l1_w_0 : w.heap.size < w1.heap.size := by omega); (try (have kq := cellAt hb1 (w.heap.size) (by go_size); have k1_w_0_0 := kq 0; have k1_w_0_1 := kq 1; have k1_w_0_2 := kq 2; have k1_w_0_3 := kq 3; have k1_w_0_4 := kq 4; clear kq; have f1_w_0 := frozAt hb1 (w.heap.size) (by go_size); simp [go_sem, *] at k1_w_0_0 k1_w_0_1 k1_w_0_2 k1_w_0_3 k1_w_0_4 f1_w_0)); (try have l1_w_0 : w.heap.size < w1.heap.size := by omega)))
    go_ret2
    refine ⟨rfl, ?_⟩
    repeat' first | (with_reducible first | apply zRf | assumption | apply zDn | apply zDr | apply zAl | apply zSt | refine zVi (by assumption) ?_ ?_) | go_size
  · obtain ⟨b1, b2, b3, b4, b5, b6⟩ := ce_facts hg
    have IC := fun W gb h k0 k1 k2 k3 k4 hgb => isCertificate_any A B n d a ln c gb zs W h k0 k1 k2 k3 k4 hgb
    have TT := fun (W : World) (hW : Below w.heap.size w W) k0 k1 k2 k3 k4 hgb => certificateText_any A B n d a ln c w.heap.size zs w0 W (h.below hW) k0 k1 k2 k3 k4 hgb b1 b2 b3 b4 b5 b6 ht (below_via hW hb hs0)
    rw [show cxS A B zs ln n d = ceT A B zs ln n d from if_pos hg]
    rw [hg] at IC
    clear hg ht hb b1 b2 b3 b4 b5 b6
    generalize ceT A B zs ln n d = D at *
    have tok1 : True := trivial
    have tok2 : True := trivial
    go_enter Tryd.func8, Tryd.ntmps8
    go_wp2_with (first | (have _t := tok1; go_at_call 33; (with_reducible refine ((IC _ w.heap.size (h.below (by repeat' first | (with_reducible first | apply zRf | assumption | apply zDn | apply zDr | apply zAl | apply zSt | refine zVi (by assumption) ?_ ?_) | go_size)) (by simp [go_sem]) (by simp [go_sem]) (by simp [go_sem]) (by simp [go_sem]) (by simp [go_sem]) (by simp))).mono ?_); rintro e w1 ⟨rfl, hb1⟩; clear tok1 _t; have hz1 := hb1.size; (try simp only [World.size_alloc, World.size_setCell, World.size_drew, World.size_drewN'] at hz1); (try (have kq := cellAt hb1 (w.heap.size) (by go_size); have k1_w_0_0 := kq 0; have k1_w_0_1 := kq 1; have k1_w_0_2 := kq 2; have k1_w_0_3 := kq 3; have k1_w_0_4 := kq 4; clear kq; have f1_w_0 := frozAt hb1 (w.heap.size) (by go_size); simp [go_sem, *] at k1_w_0_0 k1_w_0_1 k1_w_0_2 k1_w_0_3 k1_w_0_4 f1_w_0)); (try have l1_w_0 : w.heap.size < w1.heap.size := by omega); (try (have kq := cellAt hb1 (w.heap.size) (by go_size); have k1_w_0_0 := kq 0; have k1_w_0_1 := kq 1; have k1_w_0_2 := kq 2; have k1_w_0_3 := kq 3; have k1_w_0_4 := kq 4; clear kq; have f1_w_0 := frozAt hb1 (w.heap.size) (by go_size); simp [go_sem, *] at k1_w_0_0 k1_w_0_1 k1_w_0_2 k1_w_0_3 k1_w_0_4 f1_w_0)); (try have l1_w_0 : w.heap.size < w1.heap.size := by omega)) | (have _t := tok2; go_at_call 34; (with_reducible refine ((TT _ (by repeat' first | (with_reducible first | apply zRf | assumption | apply zDn | apply zDr | apply zAl | apply zSt | refine zVi (by assumption) ?_ ?_) | go_size) (by assumption) (by assumption) (by assumption) (by assumption) (by assumption) (by omega))).mono ?_); rintro e w2 ⟨rfl, hb2⟩; clear tok2 _t; have hz2 := hb2.size; (try simp only [World.size_alloc, World.size_setCell, World.size_drew, World.size_drewN'] at hz2); (try (have kq := cellAt hb2 (w.heap.size) (by go_size); have k2_w_0_0 := kq 0; have k2_w_0_1 := kq 1; have k2_w_0_2 := kq 2; have k2_w_0_3 := kq 3; have k2_w_0_4 := kq 4; clear kq; have f2_w_0 := frozAt hb2 (w.heap.size) (by go_size); simp [go_sem, *] at k2_w_0_0 k2_w_0_1 k2_w_0_2 k2_w_0_3 k2_w_0_4 f2_w_0)); (try have l2_w_0 : w.heap.size < w2.heap.size := by omega); (try (have kq := cellAt hb2 (w.heap.size) (by go_size); have k2_w_0_0 := kq 0; have k2_w_0_1 := kq 1; have k2_w_0_2 := kq 2; have k2_w_0_3 := kq 3; have k2_w_0_4 := kq 4; clear kq; have f2_w_0 := frozAt hb2 (w.heap.size) (by go_size); simp [go_sem, *] at k2_w_0_0 k2_w_0_1 k2_w_0_2 k2_w_0_3 k2_w_0_4 f2_w_0)); (try have l2_w_0 : w.heap.size < w2.heap.size := by omega); (try clear k1_w_0_0 k1_w_0_1 k1_w_0_2 k1_w_0_3 k1_w_0_4 f1_w_0); (try clear l1_w_0); (try clear k1_w_0_0 k1_w_0_1 k1_w_0_2 k1_w_0_3 k1_w_0_4 f1_w_0); (try clear l1_w_0)))
    go_ret2
    refine ⟨rfl, ?_⟩
    repeat' first | (with_reducible first | apply zRf | assumption | apply zDn | apply zDr | apply zAl | apply zSt | refine zVi (by assumption) ?_ ?_) | go_size
theorem FnExactCertificateText_any (A B n d : Int) (a : Option Addr) (ln c : Nat) (zs : List Int) (w : World) (h : Px w a ln c zs) (ht : Lib.TabIs Tryd.prog w "internal/strconv.uint64pow10" .u64 Lib.pow10Tab) : Calls Tryd.prog 3 #[.agg #[.int .i64 A, .int .i64 B, .slice a ln c, .int .i64 n, .int .i64 d]] w fun e w' => e = .returned (.bool true) ∧ Below w.heap.size w w' := by
  have hlm : ln ≤ maxLen := Nat.le_trans h.cap h.max
  have T1 := fun W : World => Lib.hid (szCertificate_any A B n d 1048576 a ln c W hlm (by omega) (by omega))
  by_cases hl : (1048576 : Int) - ln < 0
  · rw [if_pos hl] at T1
    clear hl hlm ht
    have tok1 : True := trivial
    have tok2 : True := trivial
    have tok3 : True := trivial
    have tok4 : True := trivial
    have tok5 : True := trivial
    go_enter Tryd.func3, Tryd.ntmps3
    go_wp2_with (first | (have _t := tok1; go_at_call 5; (with_reducible refine ((T1 _).out).mono ?_); rintro e w1 ⟨rfl, hb1⟩; clear tok1 _t; have hz1 := hb1.size; (try simp only [World.size_alloc, World.size_setCell, World.size_drew, World.size_drewN'] at hz1); (try (have kq := cellAt hb1 (w.heap.size) (by go_size); have k1_w_0_0 := kq 0; have k1_w_0_1 := kq 1; have k1_w_0_2 := kq 2; have k1_w_0_3 := kq 3; have k1_w_0_4 := kq 4; clear kq; have f1_w_0 := frozAt hb1 (w.heap.size) (by go_size); simp [go_sem, *] at k1_w_0_0 k1_w_0_1 k1_w_0_2 k1_w_0_3 k1_w_0_4 f1_w_0)); (try have l1_w_0 : w.heap.size < w1.heap.size := by omega)) | (have _t := tok2; go_at_call 7; refine (toCertificate_any A B n d a ln c zs _ (h.below (by repeat' first | (with_reducible first | apply zRf | assumption | apply zDn | apply zDr | apply zAl | apply zSt | refine zVi (by assumption) ?_ ?_) | go_size)) hn).mono ?_; rintro e w2 ⟨g2, rfl, hp2, hg2, hb2⟩; clear tok2 _t; have hz2 := hb2.size; (try simp only [World.size_alloc, World.size_setCell, World.size_drew, World.size_drewN'] at hz2); (try (have kq := cellAt hb2 (w.heap.size) (by go_size); have k2_w_0_0 := kq 0; have k2_w_0_1 := kq 1; have k2_w_0_2 := kq 2; have k2_w_0_3 := kq 3; have k2_w_0_4 := kq 4; clear kq; have f2_w_0 := frozAt hb2 (w.heap.size) (by go_size); simp [go_sem, *] at k2_w_0_0 k2_w_0_1 k2_w_0_2 k2_w_0_3 k2_w_0_4 f2_w_0)); (try have l2_w_0 : w.heap.size < w2.heap.size := by omega); (try clear k1_w_0_0 k1_w_0_1 k1_w_0_2 k1_w_0_3 k1_w_0_4 f1_w_0); (try clear l1_w_0)) | (have _t := tok3; go_at_call 6; (with_reducible refine ((T3 _ _ _ _ hp2)).mono ?_); rintro e w3 ⟨rfl, hb3⟩; clear tok3 _t; have hz3 := hb3.size; (try simp only [World.size_alloc, World.size_setCell, World.size_drew, World.size_drewN'] at hz3); (try (have kq := cellAt hb3 (w.heap.size) (by go_size); have k3_w_0_0 := kq 0; have k3_w_0_1 := kq 1; have k3_w_0_2 := kq 2; have k3_w_0_3 := kq 3; have k3_w_0_4 := kq 4; clear kq; have f3_w_0 := frozAt hb3 (w.heap.size) (by go_size); simp [go_sem, *] at k3_w_0_0 k3_w_0_1 k3_w_0_2 k3_w_0_3 k3_w_0_4 f3_w_0)); (try have l3_w_0 : w.heap.size < w3.heap.size := by omega); (try clear k1_w_0_0 k1_w_0_1 k1_w_0_2 k1_w_0_3 k1_w_0_4 f1_w_0); (try clear l1_w_0); (try clear k2_w_0_0 k2_w_0_1 k2_w_0_2 k2_w_0_3 k2_w_0_4 f2_w_0); (try clear l2_w_0)) | (have _t := tok4; go_at_call 7; refine (toCertificate_any A B n d a ln c zs _ (h.below (by repeat' first | (with_reducible first | apply zRf | assumption | apply zDn | apply zDr | apply zAl | apply zSt | refine zVi (by assumption) ?_ ?_) | go_size)) hn).mono ?_; rintro e w4 ⟨g4, rfl, hp4, hg4, hb4⟩; clear tok4 _t; have hz4 := hb4.size; (try simp only [World.size_alloc, World.size_setCell, World.size_drew, World.size_drewN'] at hz4); (try (have kq := cellAt hb4 (w.heap.size) (by go_size); have k4_w_0_0 := kq 0; have k4_w_0_1 := kq 1; have k4_w_0_2 := kq 2; have k4_w_0_3 := kq 3; have k4_w_0_4 := kq 4; clear kq; have f4_w_0 := frozAt hb4 (w.heap.size) (by go_size); simp [go_sem, *] at k4_w_0_0 k4_w_0_1 k4_w_0_2 k4_w_0_3 k4_w_0_4 f4_w_0)); (try have l4_w_0 : w.heap.size < w4.heap.size := by omega); (try clear k1_w_0_0 k1_w_0_1 k1_w_0_2 k1_w_0_3 k1_w_0_4 f1_w_0); (try clear l1_w_0); (try clear k2_w_0_0 k2_w_0_1 k2_w_0_2 k2_w_0_3 k2_w_0_4 f2_w_0); (try clear l2_w_0); (try clear k3_w_0_0 k3_w_0_1 k3_w_0_2 k3_w_0_3 k3_w_0_4 f3_w_0); (try clear l3_w_0)) | (have _t := tok5; go_at_call 8; (with_reducible refine ((T5 _ _ _ _ (hp4.alloc _) (by repeat' first | (with_reducible first | apply zRf | assumption | apply zDn | apply zDr | apply zAl | apply zSt | refine zVi (by assumption) ?_ ?_) | go_size))).mono ?_); rintro e w5 ⟨rfl, hb5⟩; clear tok5 _t; have hz5 := hb5.size; (try simp only [World.size_alloc, World.size_setCell, World.size_drew, World.size_drewN'] at hz5); (try (have kq := cellAt hb5 (w.heap.size) (by go_size); have k5_w_0_0 := kq 0; have k5_w_0_1 := kq 1; have k5_w_0_2 := kq 2; have k5_w_0_3 := kq 3; have k5_w_0_4 := kq 4; clear kq; have f5_w_0 := frozAt hb5 (w.heap.size) (by go_size); simp [go_sem, *] at k5_w_0_0 k5_w_0_1 k5_w_0_2 k5_w_0_3 k5_w_0_4 f5_w_0)); (try have l5_w_0 : w.heap.size < w5.heap.size := by omega); (try (have kq := cellAt hb5 (w4.heap.size) (by go_size); have k5_w4_0_0 := kq 0; have k5_w4_0_1 := kq 1; have k5_w4_0_2 := kq 2; have k5_w4_0_3 := kq 3; have k5_w4_0_4 := kq 4; clear kq; have f5_w4_0 := frozAt hb5 (w4.heap.size) (by go_size); simp [go_sem, *] at k5_w4_0_0 k5_w4_0_1 k5_w4_0_2 k5_w4_0_3 k5_w4_0_4 f5_w4_0)); (try have l5_w4_0 : w4.heap.size < w5.heap.size := by omega); (try clear k1_w_0_0 k1_w_0_1 k1_w_0_2 k1_w_0_3 k1_w_0_4 f1_w_0); (try clear l1_w_0); (try clear k2_w_0_0 k2_w_0_1 k2_w_0_2 k2_w_0_3 k2_w_0_4 f2_w_0); (try clear l2_w_0); (try clear k3_w_0_0 k3_w_0_1 k3_w_0_2 k3_w_0_3 k3_w_0_4 f3_w_0); (try clear l3_w_0); (try clear k4_w_0_0 k4_w_0_1 k4_w_0_2 k4_w_0_3 k4_w_0_4 f4_w_0); (try clear l4_w_0)))
    go_ret
    refine ⟨rfl, ?_⟩
    repeat' first | (with_reducible first | apply zRf | assumption | apply zDn | apply zDr | apply zAl | apply zSt | refine zVi (by assumption) ?_ ?_) | go_size
  · rw [if_neg hl] at T1
    have hn : ln ≤ 1048576 := by omega
    have T3 := fun (W : World) (a : Option Addr) (ln' c : Nat) (h : Px W a ln' c zs) => sCertificateText_any A B n d a ln' c zs W h
    have T5 := fun (W : World) (a : Option Addr) (ln' c : Nat) (h : Px W a ln' c zs) (hW : Below w.heap.size w W) => CertificateText_any A B n d a ln' c zs w W h ht hW
    generalize hv : (1048576 : Int) - ln = v at *
    replace T3 := fun (W : World) (a : Option Addr) (c : Nat) (h : Px W a ln c zs) => T3 W a ln c h
    replace T5 := fun (W : World) (a : Option Addr) (c : Nat) (h : Px W a ln c zs) (hW : Below w.heap.size w W) => T5 W a ln c h hW
    generalize cxS A B zs ln n d = D at *
    generalize ceB A B zs ln n d = g at *
    have e1 : (g != g) = false := by simp
    clear hv hlm ht
    have tok1 : True := trivial
    have tok2 : True := trivial
    have tok3 : True := trivial
    have tok4 : True := trivial
    have tok5 : True := trivial
    go_enter Tryd.func3, Tryd.ntmps3
    go_wp2_with (first | (have _t := tok1; go_at_call 5; (with_reducible refine ((T1 _).out).mono ?_); rintro e w1 ⟨rfl, hb1⟩; clear tok1 _t; have hz1 := hb1.size; (try simp only [World.size_alloc, World.size_setCell, World.size_drew, World.size_drewN'] at hz1); (try (have kq := cellAt hb1 (w.heap.size) (by go_size); have k1_w_0_0 := kq 0; have k1_w_0_1 := kq 1; have k1_w_0_2 := kq 2; have k1_w_0_3 := kq 3; have k1_w_0_4 := kq 4; clear kq; have f1_w_0 := frozAt hb1 (w.heap.size) (by go_size); simp [go_sem, *] at k1_w_0_0 k1_w_0_1 k1_w_0_2 k1_w_0_3 k1_w_0_4 f1_w_0)); (try have l1_w_0 : w.heap.size < w1.heap.size := by omega)) | (have _t := tok2; go_at_call 7; refine (toCertificate_any A B n d a ln c zs _ (h.below (by repeat' first | (with_reducible first | apply zRf | assumption | apply zDn | apply zDr | apply zAl | apply zSt | refine zVi (by assumption) ?_ ?_) | go_size)) hn).mono ?_; rintro e w2 ⟨g2, rfl, hp2, hg2, hb2⟩; clear tok2 _t; have hz2 := hb2.size; (try simp only [World.size_alloc, World.size_setCell, World.size_drew, World.size_drewN'] at hz2); (try (have kq := cellAt hb2 (w.heap.size) (by go_size); have k2_w_0_0 := kq 0; have k2_w_0_1 := kq 1; have k2_w_0_2 := kq 2; have k2_w_0_3 := kq 3; have k2_w_0_4 := kq 4; clear kq; have f2_w_0 := frozAt hb2 (w.heap.size) (by go_size); simp [go_sem, *] at k2_w_0_0 k2_w_0_1 k2_w_0_2 k2_w_0_3 k2_w_0_4 f2_w_0)); (try have l2_w_0 : w.heap.size < w2.heap.size := by omega); (try clear k1_w_0_0 k1_w_0_1 k1_w_0_2 k1_w_0_3 k1_w_0_4 f1_w_0); (try clear l1_w_0)) | (have _t := tok3; go_at_call 6; (with_reducible refine ((T3 _ _ _ hp2)).mono ?_); rintro e w3 ⟨rfl, hb3⟩; clear tok3 _t; have hz3 := hb3.size; (try simp only [World.size_alloc, World.size_setCell, World.size_drew, World.size_drewN'] at hz3); (try (have kq := cellAt hb3 (w.heap.size) (by go_size); have k3_w_0_0 := kq 0; have k3_w_0_1 := kq 1; have k3_w_0_2 := kq 2; have k3_w_0_3 := kq 3; have k3_w_0_4 := kq 4; clear kq; have f3_w_0 := frozAt hb3 (w.heap.size) (by go_size); simp [go_sem, *] at k3_w_0_0 k3_w_0_1 k3_w_0_2 k3_w_0_3 k3_w_0_4 f3_w_0)); (try have l3_w_0 : w.heap.size < w3.heap.size := by omega); (try clear k1_w_0_0 k1_w_0_1 k1_w_0_2 k1_w_0_3 k1_w_0_4 f1_w_0); (try clear l1_w_0); (try clear k2_w_0_0 k2_w_0_1 k2_w_0_2 k2_w_0_3 k2_w_0_4 f2_w_0); (try clear l2_w_0)) | (have _t := tok4; go_at_call 7; refine (toCertificate_any A B n d a ln c zs _ (h.below (by repeat' first | (with_reducible first | apply zRf | assumption | apply zDn | apply zDr | apply zAl | apply zSt | refine zVi (by assumption) ?_ ?_) | go_size)) hn).mono ?_; rintro e w4 ⟨g4, rfl, hp4, hg4, hb4⟩; clear tok4 _t; have hz4 := hb4.size; (try simp only [World.size_alloc, World.size_setCell, World.size_drew, World.size_drewN'] at hz4); (try (have kq := cellAt hb4 (w.heap.size) (by go_size); have k4_w_0_0 := kq 0; have k4_w_0_1 := kq 1; have k4_w_0_2 := kq 2; have k4_w_0_3 := kq 3; have k4_w_0_4 := kq 4; clear kq; have f4_w_0 := frozAt hb4 (w.heap.size) (by go_size); simp [go_sem, *] at k4_w_0_0 k4_w_0_1 k4_w_0_2 k4_w_0_3 k4_w_0_4 f4_w_0)); (try have l4_w_0 : w.heap.size < w4.heap.size := by omega); (try clear k1_w_0_0 k1_w_0_1 k1_w_0_2 k1_w_0_3 k1_w_0_4 f1_w_0); (try clear l1_w_0); (try clear k2_w_0_0 k2_w_0_1 k2_w_0_2 k2_w_0_3 k2_w_0_4 f2_w_0); (try clear l2_w_0); (try clear k3_w_0_0 k3_w_0_1 k3_w_0_2 k3_w_0_3 k3_w_0_4 f3_w_0); (try clear l3_w_0)) | (have _t := tok5; go_at_call 8; (with_reducible refine ((T5 _ _ _ (hp4.alloc _) (by repeat' first | (with_reducible first | apply zRf | assumption | apply zDn | apply zDr | apply zAl | apply zSt | refine zVi (by assumption) ?_ ?_) | go_size))).mono ?_); rintro e w5 ⟨rfl, hb5⟩; clear tok5 _t; have hz5 := hb5.size; (try simp only [World.size_alloc, World.size_setCell, World.size_drew, World.size_drewN'] at hz5); (try (have kq := cellAt hb5 (w.heap.size) (by go_size); have k5_w_0_0 := kq 0; have k5_w_0_1 := kq 1; have k5_w_0_2 := kq 2; have k5_w_0_3 := kq 3; have k5_w_0_4 := kq 4; clear kq; have f5_w_0 := frozAt hb5 (w.heap.size) (by go_size); simp [go_sem, *] at k5_w_0_0 k5_w_0_1 k5_w_0_2 k5_w_0_3 k5_w_0_4 f5_w_0)); (try have l5_w_0 : w.heap.size < w5.heap.size := by omega); (try (have kq := cellAt hb5 (w4.heap.size) (by go_size); have k5_w4_0_0 := kq 0; have k5_w4_0_1 := kq 1; have k5_w4_0_2 := kq 2; have k5_w4_0_3 := kq 3; have k5_w4_0_4 := kq 4; clear kq; have f5_w4_0 := frozAt hb5 (w4.heap.size) (by go_size); simp [go_sem, *] at k5_w4_0_0 k5_w4_0_1 k5_w4_0_2 k5_w4_0_3 k5_w4_0_4 f5_w4_0)); (try have l5_w4_0 : w4.heap.size < w5.heap.size := by omega); (try clear k1_w_0_0 k1_w_0_1 k1_w_0_2 k1_w_0_3 k1_w_0_4 f1_w_0); (try clear l1_w_0); (try clear k2_w_0_0 k2_w_0_1 k2_w_0_2 k2_w_0_3 k2_w_0_4 f2_w_0); (try clear l2_w_0); (try clear k3_w_0_0 k3_w_0_1 k3_w_0_2 k3_w_0_3 k3_w_0_4 f3_w_0); (try clear l3_w_0); (try clear k4_w_0_0 k4_w_0_1 k4_w_0_2 k4_w_0_3 k4_w_0_4 f4_w_0); (try clear l4_w_0)))
    refine wp_open (n := 4) (by kernel_rfl) (by kernel_rfl) (by kernel_rfl) (by kernel_rfl) ?_
    simp only [List.take_succ_cons, List.take_zero]
    apply wpS_quiet
    · intro γ W hW hp
      have hs := hW.size
      (try simp only [World.size_alloc, World.size_setCell, World.size_drew, World.size_drewN'] at hs)
      try (have kx_w_0_0 := fun x : Over W => (cellAt x.lies (w.heap.size) (by omega) 0).trans (cellAt hW (w.heap.size) (by go_size) 0); simp [go_sem, *] at kx_w_0_0)
      try (have kx_w_0_1 := fun x : Over W => (cellAt x.lies (w.heap.size) (by omega) 1).trans (cellAt hW (w.heap.size) (by go_size) 1); simp [go_sem, *] at kx_w_0_1)
      try (have kx_w_0_2 := fun x : Over W => (cellAt x.lies (w.heap.size) (by omega) 2).trans (cellAt hW (w.heap.size) (by go_size) 2); simp [go_sem, *] at kx_w_0_2)
      try (have kx_w_0_3 := fun x : Over W => (cellAt x.lies (w.heap.size) (by omega) 3).trans (cellAt hW (w.heap.size) (by go_size) 3); simp [go_sem, *] at kx_w_0_3)
      try (have kx_w_0_4 := fun x : Over W => (cellAt x.lies (w.heap.size) (by omega) 4).trans (cellAt hW (w.heap.size) (by go_size) 4); simp [go_sem, *] at kx_w_0_4)
      try (have kx_w4_0_0 := fun x : Over W => (cellAt x.lies (w4.heap.size) (by omega) 0).trans (cellAt hW (w4.heap.size) (by go_size) 0); simp [go_sem, *] at kx_w4_0_0)
      try (have kx_w4_0_1 := fun x : Over W => (cellAt x.lies (w4.heap.size) (by omega) 1).trans (cellAt hW (w4.heap.size) (by go_size) 1); simp [go_sem, *] at kx_w4_0_1)
      try (have kx_w4_0_2 := fun x : Over W => (cellAt x.lies (w4.heap.size) (by omega) 2).trans (cellAt hW (w4.heap.size) (by go_size) 2); simp [go_sem, *] at kx_w4_0_2)
      try (have kx_w4_0_3 := fun x : Over W => (cellAt x.lies (w4.heap.size) (by omega) 3).trans (cellAt hW (w4.heap.size) (by go_size) 3); simp [go_sem, *] at kx_w4_0_3)
      try (have kx_w4_0_4 := fun x : Over W => (cellAt x.lies (w4.heap.size) (by omega) 4).trans (cellAt hW (w4.heap.size) (by go_size) 4); simp [go_sem, *] at kx_w4_0_4)
      clear hW hp
      refine ⟨rfl, ?_⟩
      go_big_quiet_op
      first | exact rfl
    · exact locS_const _
    try simp only [Act.put, List.setIfInBounds_toArray, List.set_cons_succ, List.set_cons_zero, Nat.reduceAdd]
    apply wpS_quiet
    · intro γ W hW hp
      have hs := hW.size
      (try simp only [World.size_alloc, World.size_setCell, World.size_drew, World.size_drewN'] at hs)
      try (have kx_w_0_0 := fun x : Over W => (cellAt x.lies (w.heap.size) (by omega) 0).trans (cellAt hW (w.heap.size) (by go_size) 0); simp [go_sem, *] at kx_w_0_0)
      try (have kx_w_0_1 := fun x : Over W => (cellAt x.lies (w.heap.size) (by omega) 1).trans (cellAt hW (w.heap.size) (by go_size) 1); simp [go_sem, *] at kx_w_0_1)
      try (have kx_w_0_2 := fun x : Over W => (cellAt x.lies (w.heap.size) (by omega) 2).trans (cellAt hW (w.heap.size) (by go_size) 2); simp [go_sem, *] at kx_w_0_2)
      try (have kx_w_0_3 := fun x : Over W => (cellAt x.lies (w.heap.size) (by omega) 3).trans (cellAt hW (w.heap.size) (by go_size) 3); simp [go_sem, *] at kx_w_0_3)
      try (have kx_w_0_4 := fun x : Over W => (cellAt x.lies (w.heap.size) (by omega) 4).trans (cellAt hW (w.heap.size) (by go_size) 4); simp [go_sem, *] at kx_w_0_4)
      try (have kx_w4_0_0 := fun x : Over W => (cellAt x.lies (w4.heap.size) (by omega) 0).trans (cellAt hW (w4.heap.size) (by go_size) 0); simp [go_sem, *] at kx_w4_0_0)
      try (have kx_w4_0_1 := fun x : Over W => (cellAt x.lies (w4.heap.size) (by omega) 1).trans (cellAt hW (w4.heap.size) (by go_size) 1); simp [go_sem, *] at kx_w4_0_1)
      try (have kx_w4_0_2 := fun x : Over W => (cellAt x.lies (w4.heap.size) (by omega) 2).trans (cellAt hW (w4.heap.size) (by go_size) 2); simp [go_sem, *] at kx_w4_0_2)
      try (have kx_w4_0_3 := fun x : Over W => (cellAt x.lies (w4.heap.size) (by omega) 3).trans (cellAt hW (w4.heap.size) (by go_size) 3); simp [go_sem, *] at kx_w4_0_3)
      try (have kx_w4_0_4 := fun x : Over W => (cellAt x.lies (w4.heap.size) (by omega) 4).trans (cellAt hW (w4.heap.size) (by go_size) 4); simp [go_sem, *] at kx_w4_0_4)
      clear hW hp
      refine ⟨rfl, ?_⟩
      go_big_quiet_op
      first | exact rfl
    · exact locS_const _
    try simp only [Act.put, List.setIfInBounds_toArray, List.set_cons_succ, List.set_cons_zero, Nat.reduceAdd]
    apply wpS_open (openCert A B n d ln zs)
    · intro γ W hW hp
      have kc_w_0 := cellAt hW (w.heap.size) (by go_size)
      try simp [go_sem, *] at kc_w_0
      have kc_w4_0 := cellAt hW (w4.heap.size) (by go_size)
      try simp [go_sem, *] at kc_w4_0
      refine ⟨rfl, ?_⟩
      go_simp
      refine plainNew rfl ?_
      exact (toCertificate_any A B n d a ln c zs W ((h.below (by repeat' first | (with_reducible first | apply zRf | assumption | apply zDn | apply zDr | apply zAl | apply zSt | refine zVi (by assumption) ?_ ?_) | go_size)).below hW) hn).mono fun e w' ⟨g, he, hp, _, hb⟩ => ⟨_, he, ⟨_, _, rfl, hp⟩, hb⟩
    try simp only [Act.put, List.setIfInBounds_toArray, List.set_cons_succ, List.set_cons_zero, Nat.reduceAdd]
    apply wpS_quiet
    · intro γ W hW hp
      have hp_2 := hp _ (List.mem_append_right _ (List.mem_singleton.2 rfl)) (by kernel_rfl)
      dsimp only at hp_2
      refine ⟨rfl, ?_⟩
      go_big_quiet_op
      apply Exists.intro
      refine ⟨fun x => ?_, ?_⟩
      · (first | (go_at_call 9; exact draw_of _ (eqCert_open A B n d _ _ _ zs _ x.w (((hp4.below (by repeat' first | (with_reducible first | apply zRf | assumption | apply zDn | apply zDr | apply zAl | apply zSt | refine zVi (by assumption) ?_ ?_) | go_size)).below hW).below x.lies) ((openCert A B n d ln zs).keep _ _ _ hp_2 x.lies))))
      exact rfl
    · intro γ k g hk
      have h_2 : updV γ k g 2 = γ 2 := updV_other γ g (fun e => by subst e; exact absurd hk (by rw [show reachB .any _ 100 3 2 = true from by kernel_rfl]; simp))
      first | rfl | simp only [h_2]
    try simp only [Act.put, List.setIfInBounds_toArray, List.set_cons_succ, List.set_cons_zero, Nat.reduceAdd]
    apply wpS_end
    intro γ w6 hb6 hG6 hA6
    have hg6_2 := hG6 _ (List.mem_append_right _ (List.mem_singleton.2 rfl))
    dsimp only at hg6_2
    clear hG6 hA6
    simp only [List.drop_succ_cons, List.drop_zero]
    have hz6 := hb6.size
    (try simp only [World.size_alloc, World.size_setCell, World.size_drew, World.size_drewN'] at hz6)
    (try (have kq := cellAt hb6 (w.heap.size) (by go_size); have k6_w_0_0 := kq 0; have k6_w_0_1 := kq 1; have k6_w_0_2 := kq 2; have k6_w_0_3 := kq 3; have k6_w_0_4 := kq 4; clear kq; have f6_w_0 := frozAt hb6 (w.heap.size) (by go_size); simp [go_sem, *] at k6_w_0_0 k6_w_0_1 k6_w_0_2 k6_w_0_3 k6_w_0_4 f6_w_0))
    (try have l6_w_0 : w.heap.size < w6.heap.size := by omega)
    (try (have kq := cellAt hb6 (w4.heap.size) (by go_size); have k6_w4_0_0 := kq 0; have k6_w4_0_1 := kq 1; have k6_w4_0_2 := kq 2; have k6_w4_0_3 := kq 3; have k6_w4_0_4 := kq 4; clear kq; have f6_w4_0 := frozAt hb6 (w4.heap.size) (by go_size); simp [go_sem, *] at k6_w4_0_0 k6_w4_0_1 k6_w4_0_2 k6_w4_0_3 k6_w4_0_4 f6_w4_0))
    (try have l6_w4_0 : w4.heap.size < w6.heap.size := by omega)
    (try clear k2_w_0_0 k2_w_0_1 k2_w_0_2 k2_w_0_3 k2_w_0_4 f2_w_0)
    (try clear l2_w_0)
    (try clear k3_w_0_0 k3_w_0_1 k3_w_0_2 k3_w_0_3 k3_w_0_4 f3_w_0)
    (try clear l3_w_0)
    (try clear k4_w_0_0 k4_w_0_1 k4_w_0_2 k4_w_0_3 k4_w_0_4 f4_w_0)
    (try clear l4_w_0)
    (try clear k5_w_0_0 k5_w_0_1 k5_w_0_2 k5_w_0_3 k5_w_0_4 f5_w_0)
    (try clear l5_w_0)
    (try clear k5_w4_0_0 k5_w4_0_1 k5_w4_0_2 k5_w4_0_3 k5_w4_0_4 f5_w4_0)
    (try clear l5_w4_0)
    go_wp2_with fail
    go_ret
    refine ⟨rfl, ?_⟩
    repeat' first | (with_reducible first | apply zRf | assumption | apply zDn | apply zDr | apply zAl | apply zSt | refine zVi (by assumption) ?_ ?_) | go_size
end Go.Proofs.YtdcbpgpjiacomaaDoor
