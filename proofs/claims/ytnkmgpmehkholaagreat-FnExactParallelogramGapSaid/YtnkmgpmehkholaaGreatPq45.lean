/- Lemmas and contracts of functions. No condition. -/
import Derived.Test.YtnkmgpmehkholaaGreatPq18
import Derived.Test.YtnkmgpmehkholaaGreatPq44
namespace Go.Proofs.YtnkmgpmehkholaaGreat
open Go.RowKit
set_option linter.unusedVariables false
set_option maxHeartbeats 1000000
set_option maxRecDepth 20000
set_option linter.unusedSimpArgs false
attribute [local go_sem] openAt openUpon
def ivZ : Int × Int × Int × Int × Bool := (0, 0, 0, 0, false)
def pqB (A B x y e : Int) : Bool := cvB A B && ptB A B x y e
theorem pq_bd {A B x y e : Int} (h : pqB A B x y e = true) : (-1000 ≤ A ∧ A ≤ 1000) ∧ (-10000 ≤ B ∧ B ≤ 10000) ∧ coV A B ≠ 0 ∧ (-10000 ≤ x ∧ x ≤ 10000) ∧ (0 ≤ e ∧ e ≤ 20) := by
 unfold pqB at h
 simp only [Bool.and_eq_true] at h
 have hc := cvB_bd h.1
 refine ⟨hc.1, hc.2.1, hc.2.2, ?_⟩
 have h2 := h.2
 unfold ptB at h2
 by_cases h0 : e = 0
 ·simp [h0] at h2; omega
 ·rw [if_neg h0] at h2
  simp only [Bool.and_eq_true] at h2
  have h3 := inB_iff.1 h2.1
  have h4 := inB_iff.1 h2.2.1
  omega
theorem eqInterval_same (n1 d1 n2 d2 : Int) (w : World) : Calls Tryz.prog 10 #[.agg #[.int .i64 n1, .int .i64 d1, .int .i64 n2, .int .i64 d2], .agg #[.int .i64 n1, .int .i64 d1, .int .i64 n2, .int .i64 d2]] w fun e w' => e = .returned (.bool true) ∧ Below w.heap.size w w' := by
 have tok1 := trivial
 have tok2 := trivial
 go_enter Tryz.func10, Tryz.ntmps10
 go_wp2_with (first | (have _t := tok1; go_at_call 13; refine (eqFraction_same _ _ _).mono ?_; rintro e w1 ⟨rfl, hb1⟩; clear tok1 _t; have hz1 := hb1.size; (try simp only [sA, sB, sC, sD] at hz1); (try (obtain ⟨kq, qk⟩ := cfAt hb1 (w.heap.size); have qc := kq 0; have qd := kq 1; have qe := kq 2; have qf := kq 3; clear kq; simp [go_sem, *] at qc qd qe qf qk)); (try have qw : w.heap.size < w1.heap.size := by omega); (try (obtain ⟨kq, ql⟩ := cfAt hb1 (w.heap.size + 1); have qg := kq 0; have qh := kq 1; have qi := kq 2; have qj := kq 3; clear kq; simp [go_sem, *] at qg qh qi qj ql)); (try have qx : w.heap.size + 1 < w1.heap.size := by omega)) | (have _t := tok2; go_at_call 13; refine (eqFraction_same _ _ _).mono ?_; rintro e w2 ⟨rfl, hb2⟩; clear tok2 _t; have hz2 := hb2.size; (try simp only [sA, sB, sC, sD] at hz2); (try (obtain ⟨kq, qy⟩ := cfAt hb2 (w.heap.size); have qm := kq 0; have qn := kq 1; have qo := kq 2; have qq := kq 3; clear kq; simp [go_sem, *] at qm qn qo qq qy)); (try have xc : w.heap.size < w2.heap.size := by omega); (try (obtain ⟨kq, qz⟩ := cfAt hb2 (w.heap.size + 1); have qr := kq 0; have qt := kq 1; have qu := kq 2; have qv := kq 3; clear kq; simp [go_sem, *] at qr qt qu qv qz)); (try have xd : w.heap.size + 1 < w2.heap.size := by omega); (try clear qc qd qe qf qk); (try clear qw); (try clear qg qh qi qj ql); (try clear qx)))
 go_ret
 refine ⟨rfl, ?_⟩
 exact bel
theorem isP_any (A B x y e : Int) (w : World) : Calls Tryz.prog 18 #[.agg #[.int .i64 A, .int .i64 B], .agg #[.int .i64 x, .int .i64 y, .int .i64 e]] w fun r w' => r = .returned (.bool (pqB A B x y e)) ∧ Below w.heap.size w w' := isPoint_any A B x y e w
theorem sIsP_any (A B x y e : Int) (w : World) : Calls Tryz.prog 33 #[.agg #[.int .i64 A, .int .i64 B], .agg #[.int .i64 x, .int .i64 y, .int .i64 e]] w fun r w' => r = .returned (.bool (pqB A B x y e)) ∧ Below w.heap.size w w' := IsPointOf_any A B x y e w
theorem be_lit (C : Int) (st : Nat → RSt) : (beOk C st = true ∧ validB (bLo C st (bestN st)) (bHi C st (bestN st)) = true ∧ beN1 C st = mkN (bLo C st (bestN st)) 4096 ∧ beD1 C st = mkD (bLo C st (bestN st)) 4096 ∧ beN2 C st = mkN (bHi C st (bestN st)) 4096 ∧ beD2 C st = mkD (bHi C st (bestN st)) 4096 ∧ beK C st = bestN st) ∨
  (beOk C st = false ∧ validB (bLo C st (bestN st)) (bHi C st (bestN st)) = false ∧ beN1 C st = 0 ∧ beD1 C st = 0 ∧ beN2 C st = 0 ∧ beD2 C st = 0 ∧ beK C st = 0) := by
 cases h : validB (bLo C st (bestN st)) (bHi C st (bestN st))
 ·right; simp [beOk, beN1, beD1, beN2, beD2, beK, ivN1, ivD1, ivN2, ivD2, h]
 ·left; simp [beOk, beN1, beD1, beN2, beD2, beK, ivN1, ivD1, ivN2, ivD2, h]
/-- the places of the best interval, known to be small -/
theorem best_bd {A B x y e : Int} (h : pqB A B x y e = true) : (0 ≤ bLo (dcV A B) (ptSt A B x e) (bestN (ptSt A B x e)) ∧ bLo (dcV A B) (ptSt A B x e) (bestN (ptSt A B x e)) ≤ 14100000) ∧ (0 ≤ bHi (dcV A B) (ptSt A B x e) (bestN (ptSt A B x e)) ∧ bHi (dcV A B) (ptSt A B x e) (bestN (ptSt A B x e)) ≤ 14100000) := by
 have hb := pq_bd h
 exact b_bd (dc_bd hb.1 hb.2.1) (fun k => ptSt_ok hb.2.2.2.1 hb.2.2.2.2 k) _
end Go.Proofs.YtnkmgpmehkholaaGreat
