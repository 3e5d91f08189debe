/- Lemmas and contracts of functions. No condition. -/
import Derived.Test.YtfbegjiebahdcaaPk31
import Derived.Test.YtfbegjiebahdcaaPk32
namespace Go.Proofs.Ytfbegjiebahdcaa
open Go.RowKit
set_option linter.unusedVariables false
set_option maxHeartbeats 1000000
set_option maxRecDepth 20000
set_option linter.unusedSimpArgs false
attribute [local go_sem] openAt openUpon
def iv5 (ok : Bool) (a b : Int) : Int × Int × Int × Int × Bool := (ivN1 ok a b, ivD1 ok a b, ivN2 ok a b, ivD2 ok a b, ok && validB a b)
def ivZ : Int × Int × Int × Int × Bool := (0, 0, 0, 0, false)
theorem iv5_no {ok : Bool} {a b : Int} (h : (ok && validB a b) = false) : iv5 ok a b = ivZ := by simp [iv5, ivZ, ivN1, ivD1, ivN2, ivD2, h]
def pqB (A B x y e : Int) : Bool := cvB A B && ptB A B x y e
theorem pq_bd {A B x y e : Int} (h : pqB A B x y e = true) : (-1000 ≤ A ∧ A ≤ 1000) ∧ (-10000 ≤ B ∧ B ≤ 10000) ∧ coV A B ≠ 0 ∧ (-10000 ≤ x ∧ x ≤ 10000) ∧ (0 ≤ e ∧ e ≤ 20) := by
  unfold pqB at h
  simp only [Bool.and_eq_true] at h
  have hc := cvB_bd h.1
  refine ⟨hc.1, hc.2.1, hc.2.2, ?_⟩
  have h2 := h.2
  unfold ptB at h2
  by_cases h0 : e = 0
  · simp [h0] at h2; omega
  · rw [if_neg h0] at h2
    simp only [Bool.and_eq_true] at h2
    have h3 := inB_iff.1 h2.1
    have h4 := inB_iff.1 h2.2.1
    omega
theorem mk_pos {a : Int} (h1 : -1000000000 ≤ a) (h2 : a ≤ 1000000000) : (0 < mkN a 4096 ↔ 0 < a) := by
  have h := mk_pre (mk_ok h1 h2)
  have := (plN_sgn h.1).1
  rw [h.2] at this
  exact this.symm
theorem mk_less (a b : Int) : (mkN a 4096 * mkD b 4096 < mkN b 4096 * mkD a 4096 ↔ a < b) := by
  have ha := mk_mul (n := a) (d := 4096) (by omega)
  have hb := mk_mul (n := b) (d := 4096) (by omega)
  have da := (mkD_pos (n := a) (d := 4096) (by omega)).1
  have db := (mkD_pos (n := b) (d := 4096) (by omega)).1
  generalize mkN a 4096 = na at *
  generalize mkN b 4096 = nb at *
  generalize mkD a 4096 = p at *
  generalize mkD b 4096 = q at *
  have e1 : na * q * 4096 = a * (p * q) := by rw [Int.mul_right_comm, ha, Int.mul_assoc]
  have e2 : nb * p * 4096 = b * (p * q) := by rw [Int.mul_right_comm, hb, Int.mul_assoc, Int.mul_comm q p]
  have hpq : 0 < p * q := Int.mul_pos (by omega) (by omega)
  constructor
  · intro h
    have h3 : a * (p * q) < b * (p * q) := by omega
    exact Int.lt_of_mul_lt_mul_right h3 (Int.le_of_lt hpq)
  · intro h
    have h3 : a * (p * q) < b * (p * q) := Int.mul_lt_mul_of_pos_right h hpq
    omega
theorem eqInterval_same (n1 d1 n2 d2 : Int) (w : World) : Calls Try.prog 39 #[.agg #[.int .i64 n1, .int .i64 d1, .int .i64 n2, .int .i64 d2], .agg #[.int .i64 n1, .int .i64 d1, .int .i64 n2, .int .i64 d2]] w fun e w' => e = .returned (.bool true) ∧ Below w.heap.size w w' := by
  have tok1 : True := trivial
  have tok2 : True := trivial
  go_enter Try.func39, Try.ntmps39
  go_wp2_with (first | (have _t := tok1; go_at_call 17; refine (eqFraction_same _ _ _).mono ?_; rintro e w1 ⟨rfl, hb1⟩; clear tok1 _t; have hz1 := hb1.size; (try simp only [World.size_alloc, World.size_setCell, World.size_drew, World.size_drewN'] at hz1); (try (have kq := cellAt hb1 (w.heap.size) (by go_size); have k1_w_0_0 := kq 0; have k1_w_0_1 := kq 1; have k1_w_0_2 := kq 2; have k1_w_0_3 := kq 3; clear kq; have f1_w_0 := frozAt hb1 (w.heap.size) (by go_size); simp [go_sem, *] at k1_w_0_0 k1_w_0_1 k1_w_0_2 k1_w_0_3 f1_w_0)); (try have l1_w_0 : w.heap.size < w1.heap.size := by omega); (try (have kq := cellAt hb1 (w.heap.size + 1) (by go_size); have k1_w_1_0 := kq 0; have k1_w_1_1 := kq 1; have k1_w_1_2 := kq 2; have k1_w_1_3 := kq 3; clear kq; have f1_w_1 := frozAt hb1 (w.heap.size + 1) (by go_size); simp [go_sem, *] at k1_w_1_0 k1_w_1_1 k1_w_1_2 k1_w_1_3 f1_w_1)); (try have l1_w_1 : w.heap.size + 1 < w1.heap.size := by omega)) | (have _t := tok2; go_at_call 17; refine (eqFraction_same _ _ _).mono ?_; rintro e w2 ⟨rfl, hb2⟩; clear tok2 _t; have hz2 := hb2.size; (try simp only [World.size_alloc, World.size_setCell, World.size_drew, World.size_drewN'] at hz2); (try (have kq := cellAt hb2 (w.heap.size) (by go_size); have k2_w_0_0 := kq 0; have k2_w_0_1 := kq 1; have k2_w_0_2 := kq 2; have k2_w_0_3 := kq 3; clear kq; have f2_w_0 := frozAt hb2 (w.heap.size) (by go_size); simp [go_sem, *] at k2_w_0_0 k2_w_0_1 k2_w_0_2 k2_w_0_3 f2_w_0)); (try have l2_w_0 : w.heap.size < w2.heap.size := by omega); (try (have kq := cellAt hb2 (w.heap.size + 1) (by go_size); have k2_w_1_0 := kq 0; have k2_w_1_1 := kq 1; have k2_w_1_2 := kq 2; have k2_w_1_3 := kq 3; clear kq; have f2_w_1 := frozAt hb2 (w.heap.size + 1) (by go_size); simp [go_sem, *] at k2_w_1_0 k2_w_1_1 k2_w_1_2 k2_w_1_3 f2_w_1)); (try have l2_w_1 : w.heap.size + 1 < w2.heap.size := by omega); (try clear k1_w_0_0 k1_w_0_1 k1_w_0_2 k1_w_0_3 f1_w_0); (try clear l1_w_0); (try clear k1_w_1_0 k1_w_1_1 k1_w_1_2 k1_w_1_3 f1_w_1); (try clear l1_w_1)))
  go_ret
  refine ⟨rfl, ?_⟩
  repeat' first | (with_reducible first | apply zRf | assumption | apply zDn | apply zDr | apply zAl | apply zSt | refine zVi (by assumption) ?_ ?_) | go_size
theorem isP_any (A B x y e : Int) (w : World) : Calls Try.prog 74 #[.agg #[.int .i64 A, .int .i64 B], .agg #[.int .i64 x, .int .i64 y, .int .i64 e]] w fun r w' => r = .returned (.bool (pqB A B x y e)) ∧ Below w.heap.size w w' := isPoint_any A B x y e w
theorem sIsP_any (A B x y e : Int) (w : World) : Calls Try.prog 78 #[.agg #[.int .i64 A, .int .i64 B], .agg #[.int .i64 x, .int .i64 y, .int .i64 e]] w fun r w' => r = .returned (.bool (pqB A B x y e)) ∧ Below w.heap.size w w' := IsPointOf_any A B x y e w
theorem chAsked_any (A B x y e n : Int) (w : World) : Calls Try.prog 71 #[.agg #[.int .i64 A, .int .i64 B], .agg #[.int .i64 x, .int .i64 y, .int .i64 e], .int .i64 n] w fun r w' => r = .returned (.bool (pqB A B x y e && inB n 0 5)) ∧ Below w.heap.size w w' := by
  have T1 := fun W => Lib.hid (sIsP_any A B x y e W)
  have T2 := fun W => Lib.hid (l1In_any n 0 5 W)
  generalize pqB A B x y e = p at *
  generalize inB n 0 5 = q at *
  cases p
  · have tok1 : True := trivial
    go_enter Try.func71, Try.ntmps71
    go_wp2_with (first | (have _t := tok1; go_at_call 78; (with_reducible refine ((T1 _).out).mono ?_); rintro e w1 ⟨rfl, hb1⟩; clear tok1 _t; have hz1 := hb1.size; (try simp only [World.size_alloc, World.size_setCell, World.size_drew, World.size_drewN'] at hz1); (try (have kq := cellAt hb1 (w.heap.size) (by go_size); have k1_w_0_0 := kq 0; have k1_w_0_1 := kq 1; clear kq; have f1_w_0 := frozAt hb1 (w.heap.size) (by go_size); simp [go_sem, *] at k1_w_0_0 k1_w_0_1 f1_w_0)); (try have l1_w_0 : w.heap.size < w1.heap.size := by omega); (try (have kq := cellAt hb1 (w.heap.size + 1) (by go_size); have k1_w_1_0 := kq 0; have k1_w_1_1 := kq 1; have k1_w_1_2 := kq 2; clear kq; have f1_w_1 := frozAt hb1 (w.heap.size + 1) (by go_size); simp [go_sem, *] at k1_w_1_0 k1_w_1_1 k1_w_1_2 f1_w_1)); (try have l1_w_1 : w.heap.size + 1 < w1.heap.size := by omega)) | (go_at_call 54; (with_reducible refine ((T2 _).out).mono ?_); rintro e w' ⟨rfl, rfl⟩))
    go_ret
    refine ⟨rfl, ?_⟩
    repeat' first | (with_reducible first | apply zRf | assumption | apply zDn | apply zDr | apply zAl | apply zSt | refine zVi (by assumption) ?_ ?_) | go_size
  · cases q
    · have tok1 : True := trivial
      go_enter Try.func71, Try.ntmps71
      go_wp2_with (first | (have _t := tok1; go_at_call 78; (with_reducible refine ((T1 _).out).mono ?_); rintro e w1 ⟨rfl, hb1⟩; clear tok1 _t; have hz1 := hb1.size; (try simp only [World.size_alloc, World.size_setCell, World.size_drew, World.size_drewN'] at hz1); (try (have kq := cellAt hb1 (w.heap.size) (by go_size); have k1_w_0_0 := kq 0; have k1_w_0_1 := kq 1; clear kq; have f1_w_0 := frozAt hb1 (w.heap.size) (by go_size); simp [go_sem, *] at k1_w_0_0 k1_w_0_1 f1_w_0)); (try have l1_w_0 : w.heap.size < w1.heap.size := by omega); (try (have kq := cellAt hb1 (w.heap.size + 1) (by go_size); have k1_w_1_0 := kq 0; have k1_w_1_1 := kq 1; have k1_w_1_2 := kq 2; clear kq; have f1_w_1 := frozAt hb1 (w.heap.size + 1) (by go_size); simp [go_sem, *] at k1_w_1_0 k1_w_1_1 k1_w_1_2 f1_w_1)); (try have l1_w_1 : w.heap.size + 1 < w1.heap.size := by omega)) | (go_at_call 54; (with_reducible refine ((T2 _).out).mono ?_); rintro e w' ⟨rfl, rfl⟩))
      go_ret
      refine ⟨rfl, ?_⟩
      repeat' first | (with_reducible first | apply zRf | assumption | apply zDn | apply zDr | apply zAl | apply zSt | refine zVi (by assumption) ?_ ?_) | go_size
    · have tok1 : True := trivial
      go_enter Try.func71, Try.ntmps71
      go_wp2_with (first | (have _t := tok1; go_at_call 78; (with_reducible refine ((T1 _).out).mono ?_); rintro e w1 ⟨rfl, hb1⟩; clear tok1 _t; have hz1 := hb1.size; (try simp only [World.size_alloc, World.size_setCell, World.size_drew, World.size_drewN'] at hz1); (try (have kq := cellAt hb1 (w.heap.size) (by go_size); have k1_w_0_0 := kq 0; have k1_w_0_1 := kq 1; clear kq; have f1_w_0 := frozAt hb1 (w.heap.size) (by go_size); simp [go_sem, *] at k1_w_0_0 k1_w_0_1 f1_w_0)); (try have l1_w_0 : w.heap.size < w1.heap.size := by omega); (try (have kq := cellAt hb1 (w.heap.size + 1) (by go_size); have k1_w_1_0 := kq 0; have k1_w_1_1 := kq 1; have k1_w_1_2 := kq 2; clear kq; have f1_w_1 := frozAt hb1 (w.heap.size + 1) (by go_size); simp [go_sem, *] at k1_w_1_0 k1_w_1_1 k1_w_1_2 f1_w_1)); (try have l1_w_1 : w.heap.size + 1 < w1.heap.size := by omega)) | (go_at_call 54; (with_reducible refine ((T2 _).out).mono ?_); rintro e w' ⟨rfl, rfl⟩))
      go_ret
      refine ⟨rfl, ?_⟩
      repeat' first | (with_reducible first | apply zRf | assumption | apply zDn | apply zDr | apply zAl | apply zSt | refine zVi (by assumption) ?_ ?_) | go_size
def agB (A B x y e n : Int) : Bool := pqB A B x y e && inB n 0 5
def haV (A B x y e n : Int) : Int × Int × Int × Int × Bool := if agB A B x y e n = true then iv5 (htOk (ptSt A B x e n.toNat)) (htLo (dcV A B) n.toNat (ptSt A B x e n.toNat)) (htHi (dcV A B) n.toNat (ptSt A B x e n.toNat)) else ivZ
theorem haV_cases (A B x y e n : Int) : (pqB A B x y e = false ∧ haV A B x y e n = ivZ) ∨ (pqB A B x y e = true ∧ (inB n 0 5 = false ∧ haV A B x y e n = ivZ ∨ inB n 0 5 = true ∧ haV A B x y e n = iv5 (htOk (ptSt A B x e n.toNat)) (htLo (dcV A B) n.toNat (ptSt A B x e n.toNat)) (htHi (dcV A B) n.toNat (ptSt A B x e n.toNat)))) := by
  unfold haV agB
  cases h1 : pqB A B x y e
  · left; exact ⟨rfl, by simp⟩
  · right; refine ⟨rfl, ?_⟩
    cases h2 : inB n 0 5
    · left; exact ⟨rfl, by simp⟩
    · right; exact ⟨rfl, by simp⟩
theorem be_lit (C : Int) (st : Nat → RSt) : (beOk C st = true ∧ validB (bLo C st (bestN st)) (bHi C st (bestN st)) = true ∧ beN1 C st = mkN (bLo C st (bestN st)) 4096 ∧ beD1 C st = mkD (bLo C st (bestN st)) 4096 ∧ beN2 C st = mkN (bHi C st (bestN st)) 4096 ∧ beD2 C st = mkD (bHi C st (bestN st)) 4096 ∧ beK C st = bestN st) ∨
    (beOk C st = false ∧ validB (bLo C st (bestN st)) (bHi C st (bestN st)) = false ∧ beN1 C st = 0 ∧ beD1 C st = 0 ∧ beN2 C st = 0 ∧ beD2 C st = 0 ∧ beK C st = 0) := by
  cases h : validB (bLo C st (bestN st)) (bHi C st (bestN st))
  · right; simp [beOk, beN1, beD1, beN2, beD2, beK, ivN1, ivD1, ivN2, ivD2, h]
  · left; simp [beOk, beN1, beD1, beN2, beD2, beK, ivN1, ivD1, ivN2, ivD2, h]
/-- a made interval's ends, and that they are small -/
theorem mk_bds {a : Int} (h1 : -1000000000 ≤ a) (h2 : a ≤ 1000000000) : (-1000000000 ≤ mkN a 4096 ∧ mkN a 4096 ≤ 1000000000) ∧ (0 ≤ mkD a 4096 ∧ mkD a 4096 ≤ 1000000000) := by
  have := frB_bd (mk_ok h1 h2)
  omega
theorem frLess_any' (n1 d1 n2 d2 : Int) (w : World) (h1 : -1000000000 ≤ n1 ∧ n1 ≤ 1000000000) (h2 : -1000000000 ≤ n2 ∧ n2 ≤ 1000000000) (h3 : 0 ≤ d1 ∧ d1 ≤ 1000000000) (h4 : 0 ≤ d2 ∧ d2 ≤ 1000000000) :
    Calls Try.prog 81 #[.agg #[.int .i64 n1, .int .i64 d1], .agg #[.int .i64 n2, .int .i64 d2]] w fun e w' => e = .returned (.bool (decide (n1 * d2 < n2 * d1))) ∧ Below w.heap.size w w' := by
  have m1 := mul_bd (a := n1) (b := d2) (A := 1000000000) (B := 1000000000) (by omega) (by omega)
  have m2 := mul_bd (a := n2) (b := d1) (A := 1000000000) (B := 1000000000) (by omega) (by omega)
  go_enter Try.func81, Try.ntmps81
  go_wp2
  refine bodyPost_ret (v := _) (by simp [results, Try.results81, go_sem, *]) rfl ⟨rfl, ?_⟩
  repeat' first | (with_reducible first | apply zRf | assumption | apply zDn | apply zDr | apply zAl | apply zSt | refine zVi (by assumption) ?_ ?_) | go_size
theorem frLess_mk (a b : Int) (w : World) (h1 : 0 ≤ a ∧ a ≤ 14100000) (h2 : 0 ≤ b ∧ b ≤ 14100000) :
    Calls Try.prog 81 #[.agg #[.int .i64 (mkN a 4096), .int .i64 (mkD a 4096)], .agg #[.int .i64 (mkN b 4096), .int .i64 (mkD b 4096)]] w fun e w' => e = .returned (.bool (decide (a < b))) ∧ Below w.heap.size w w' := by
  have q1 := mk_bds (a := a) (by omega) (by omega)
  have q2 := mk_bds (a := b) (by omega) (by omega)
  have := frLess_any' (mkN a 4096) (mkD a 4096) (mkN b 4096) (mkD b 4096) w (by omega) (by omega) (by omega) (by omega)
  rw [show decide (mkN a 4096 * mkD b 4096 < mkN b 4096 * mkD a 4096) = decide (a < b) by simp only [mk_less]] at this
  exact this
/-- the places of the best interval, known to be small -/
theorem best_bd {A B x y e : Int} (h : pqB A B x y e = true) : (0 ≤ bLo (dcV A B) (ptSt A B x e) (bestN (ptSt A B x e)) ∧ bLo (dcV A B) (ptSt A B x e) (bestN (ptSt A B x e)) ≤ 14100000) ∧ (0 ≤ bHi (dcV A B) (ptSt A B x e) (bestN (ptSt A B x e)) ∧ bHi (dcV A B) (ptSt A B x e) (bestN (ptSt A B x e)) ≤ 14100000) := by
  have hb := pq_bd h
  exact b_bd (dc_bd hb.1 hb.2.1) (fun k => ptSt_ok hb.2.2.2.1 hb.2.2.2.2 k) _
end Go.Proofs.Ytfbegjiebahdcaa
