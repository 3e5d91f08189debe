/- Lemmas and contracts of functions. No condition. -/
import Derived.Test.YtnemnkbcbokafaaGreatPk1
import Derived.Test.YtnemnkbcbokafaaGreatPk3
import Derived.Test.YtnemnkbcbokafaaGreatPk9
import Derived.Deep.DrawnRows
namespace Go.Proofs.YtnemnkbcbokafaaGreat
section
open Go.RowKit
set_option linter.unusedVariables false
set_option maxHeartbeats 4000000
set_option maxRecDepth 20000
set_option linter.unusedSimpArgs false

/-! ### Plain words -/
def prF (n1 d1 n2 d2 : Int) : Int × Int × Bool := mkF (n1 * n2) (d1 * d2)
def suF (n1 d1 n2 d2 : Int) : Int × Int × Bool := mkF (n1 * d2 + n2 * d1) (d1 * d2)
def diF (n1 d1 n2 d2 : Int) : Int × Int × Bool := mkF (n1 * d2 - n2 * d1) (d1 * d2)
def quF (n1 d1 n2 d2 : Int) : Int × Int × Bool := if n2 = 0 then (0, 0, false) else mkF (n1 * d2) (d1 * n2)
theorem mkF_frB {n d : Int} (h : (mkF n d).2.2 = true) : frB (mkF n d).1 (mkF n d).2.1 = true := by
 unfold mkF at h ⊢
 split at h
 ·rename_i hh; rw [if_pos hh]; exact hh
 ·cases h
theorem frB_one {a : Int} (h1 : -1000000000 ≤ a) (h2 : a ≤ 1000000000) : frB a 1 = true := by
 simp [frB, inB, gcdI, h1, h2]
theorem mkF_whole {a : Int} (h1 : -1000000000 ≤ a) (h2 : a ≤ 1000000000) : mkF a 1 = (a, 1, true) := by
 have e1 : mkN a 1 = a := by simp [mkN, gcdI]
 have e2 : mkD a 1 = 1 := by simp [mkD, gcdI]
 simp [mkF, e1, e2, frB_one h1 h2]
theorem frB_mul {n1 d1 n2 d2 : Int} (h1 : frB n1 d1 = true) (h2 : frB n2 d2 = true) : (-1000000000000000000 ≤ n1 * n2 ∧ n1 * n2 ≤ 1000000000000000000) ∧ (-1000000000000000000 ≤ n1 * d2 ∧ n1 * d2 ≤ 1000000000000000000) ∧
  (-1000000000000000000 ≤ n2 * d1 ∧ n2 * d1 ≤ 1000000000000000000) ∧ (-1000000000000000000 ≤ d1 * n2 ∧ d1 * n2 ≤ 1000000000000000000) ∧ 1 ≤ d1 * d2 ∧ d1 * d2 ≤ 1000000000000000000 ∧ (n2 ≠ 0 → d1 * n2 ≠ 0) := by
 have b1 := frB_bd h1
 have b2 := frB_bd h2
 have m1 := mul_bd (a := n1) (b := n2) (A := 1000000000) (B := 1000000000) (by omega) (by omega)
 have m2 := mul_bd (a := n1) (b := d2) (A := 1000000000) (B := 1000000000) (by omega) (by omega)
 have m3 := mul_bd (a := n2) (b := d1) (A := 1000000000) (B := 1000000000) (by omega) (by omega)
 have m4 := mul_bd (a := d1) (b := n2) (A := 1000000000) (B := 1000000000) (by omega) (by omega)
 have m5 := mul_bd (a := d1) (b := d2) (A := 1000000000) (B := 1000000000) (by omega) (by omega)
 have p : 0 < d1 * d2 := Int.mul_pos (by omega) (by omega)
 refine ⟨by omega, by omega, by omega, by omega, by omega, by omega, fun h e => ?_⟩
 rcases Int.mul_eq_zero.1 e with x | x <;> omega
def stN (v : Bool) (f : Int × Int × Bool) : Int := if (v && f.2.2) = true then f.1 else 0
def stD (v : Bool) (f : Int × Int × Bool) : Int := if (v && f.2.2) = true then f.2.1 else 1
theorem st_frB (v : Bool) (n d : Int) : frB (stN v (mkF n d)) (stD v (mkF n d)) = true := by
 unfold stN stD
 split
 ·rename_i h; simp only [Bool.and_eq_true] at h; exact mkF_frB h.2
 ·exact frB_one (by omega) (by omega)
theorem quF_frB (v : Bool) (n1 d1 n2 d2 : Int) : frB (stN v (quF n1 d1 n2 d2)) (stD v (quF n1 d1 n2 d2)) = true := by
 unfold quF
 split
 ·simp only [stN, stD, Bool.and_false]; exact frB_one (by omega) (by omega)
 ·exact st_frB v _ _

/-! ### Contracts: the reference's four operations -/
theorem frMul_any {n1 d1 n2 d2 : Int} (w : World) (h1 : frB n1 d1 = true) (h2 : frB n2 d2 = true) : Calls Tryz.prog 40 #[.agg #[.int .i64 n1, .int .i64 d1], .agg #[.int .i64 n2, .int .i64 d2]] w fun e w' =>
  e = .returned (.tuple #[.agg #[.int .i64 (prF n1 d1 n2 d2).1, .int .i64 (prF n1 d1 n2 d2).2.1], .bool (prF n1 d1 n2 d2).2.2]) ∧ Below w.heap.size w w' := by
 have m := frB_mul h1 h2
 unfold prF
 clear h1 h2
 have tok1 := trivial
 go_enter Tryz.func40, Tryz.ntmps40
 go_wp2_with (first | (have _t := tok1; go_at_call 50; refine (frMake_any _ _ _ (by omega) (by omega) (by omega) (by omega) (by omega)).mono ?_; rintro e w1 ⟨rfl, hb1⟩; clear tok1 _t; have hz1 := hb1.size; (try simp only [sA, sB, sC, sD] at hz1); (try (obtain ⟨qa, qb, qi⟩ := cf2 hb1 (w.heap.size); simp [go_sem, *] at qa qb qi)); (try have ql : w.heap.size < w1.heap.size := by omega); (try (obtain ⟨qc, qf, qj⟩ := cf2 hb1 (w.heap.size + 1); simp [go_sem, *] at qc qf qj)); (try have qm : w.heap.size + 1 < w1.heap.size := by omega); (try (obtain ⟨qg, qh, qk⟩ := cf2 hb1 (w.heap.size + 1 + 1); simp [go_sem, *] at qg qh qk)); (try have qp : w.heap.size + 1 + 1 < w1.heap.size := by omega)))
 refine bodyPost_ret (v := _) (by simp [results, Tryz.results40, go_sem, *]) rfl ⟨rfl, ?_⟩
 exact bel
theorem frAdd_any {n1 d1 n2 d2 : Int} (w : World) (h1 : frB n1 d1 = true) (h2 : frB n2 d2 = true) : Calls Tryz.prog 44 #[.agg #[.int .i64 n1, .int .i64 d1], .agg #[.int .i64 n2, .int .i64 d2]] w fun e w' =>
  e = .returned (.tuple #[.agg #[.int .i64 (suF n1 d1 n2 d2).1, .int .i64 (suF n1 d1 n2 d2).2.1], .bool (suF n1 d1 n2 d2).2.2]) ∧ Below w.heap.size w w' := by
 have m := frB_mul h1 h2
 unfold suF
 clear h1 h2
 have tok1 := trivial
 go_enter Tryz.func44, Tryz.ntmps44
 go_wp2_with (first | (have _t := tok1; go_at_call 50; refine (frMake_any _ _ _ (by omega) (by omega) (by omega) (by omega) (by omega)).mono ?_; rintro e w1 ⟨rfl, hb1⟩; clear tok1 _t; have hz1 := hb1.size; (try simp only [sA, sB, sC, sD] at hz1); (try (obtain ⟨qa, qb, qi⟩ := cf2 hb1 (w.heap.size); simp [go_sem, *] at qa qb qi)); (try have ql : w.heap.size < w1.heap.size := by omega); (try (obtain ⟨qc, qf, qj⟩ := cf2 hb1 (w.heap.size + 1); simp [go_sem, *] at qc qf qj)); (try have qm : w.heap.size + 1 < w1.heap.size := by omega); (try (obtain ⟨qg, qh, qk⟩ := cf2 hb1 (w.heap.size + 1 + 1); simp [go_sem, *] at qg qh qk)); (try have qp : w.heap.size + 1 + 1 < w1.heap.size := by omega)))
 refine bodyPost_ret (v := _) (by simp [results, Tryz.results44, go_sem, *]) rfl ⟨rfl, ?_⟩
 exact bel
theorem frSub_any {n1 d1 n2 d2 : Int} (w : World) (h1 : frB n1 d1 = true) (h2 : frB n2 d2 = true) : Calls Tryz.prog 65 #[.agg #[.int .i64 n1, .int .i64 d1], .agg #[.int .i64 n2, .int .i64 d2]] w fun e w' =>
  e = .returned (.tuple #[.agg #[.int .i64 (diF n1 d1 n2 d2).1, .int .i64 (diF n1 d1 n2 d2).2.1], .bool (diF n1 d1 n2 d2).2.2]) ∧ Below w.heap.size w w' := by
 have m := frB_mul h1 h2
 unfold diF
 clear h1 h2
 have tok1 := trivial
 go_enter Tryz.func65, Tryz.ntmps65
 go_wp2_with (first | (have _t := tok1; go_at_call 50; refine (frMake_any _ _ _ (by omega) (by omega) (by omega) (by omega) (by omega)).mono ?_; rintro e w1 ⟨rfl, hb1⟩; clear tok1 _t; have hz1 := hb1.size; (try simp only [sA, sB, sC, sD] at hz1); (try (obtain ⟨qa, qb, qi⟩ := cf2 hb1 (w.heap.size); simp [go_sem, *] at qa qb qi)); (try have ql : w.heap.size < w1.heap.size := by omega); (try (obtain ⟨qc, qf, qj⟩ := cf2 hb1 (w.heap.size + 1); simp [go_sem, *] at qc qf qj)); (try have qm : w.heap.size + 1 < w1.heap.size := by omega); (try (obtain ⟨qg, qh, qk⟩ := cf2 hb1 (w.heap.size + 1 + 1); simp [go_sem, *] at qg qh qk)); (try have qp : w.heap.size + 1 + 1 < w1.heap.size := by omega)))
 refine bodyPost_ret (v := _) (by simp [results, Tryz.results65, go_sem, *]) rfl ⟨rfl, ?_⟩
 exact bel
theorem frDiv_any {n1 d1 n2 d2 : Int} (w : World) (h1 : frB n1 d1 = true) (h2 : frB n2 d2 = true) : Calls Tryz.prog 64 #[.agg #[.int .i64 n1, .int .i64 d1], .agg #[.int .i64 n2, .int .i64 d2]] w fun e w' =>
  e = .returned (.tuple #[.agg #[.int .i64 (quF n1 d1 n2 d2).1, .int .i64 (quF n1 d1 n2 d2).2.1], .bool (quF n1 d1 n2 d2).2.2]) ∧ Below w.heap.size w w' := by
 have m := frB_mul h1 h2
 by_cases hz : n2 = 0
 ·rw [quF, if_pos hz]
  clear h1 h2
  have tok1 := trivial
  go_enter Tryz.func64, Tryz.ntmps64
  go_wp2_with (first | (have _t := tok1; go_at_call 50; refine (frMake_any _ _ _ (by omega) (by omega) (by omega) (by omega) (by omega)).mono ?_; rintro e w1 ⟨rfl, hb1⟩; clear tok1 _t; have hz1 := hb1.size; (try simp only [sA, sB, sC, sD] at hz1); (try (obtain ⟨qa, qb, qi⟩ := cf2 hb1 (w.heap.size); simp [go_sem, *] at qa qb qi)); (try have ql : w.heap.size < w1.heap.size := by omega); (try (obtain ⟨qc, qf, qj⟩ := cf2 hb1 (w.heap.size + 1); simp [go_sem, *] at qc qf qj)); (try have qm : w.heap.size + 1 < w1.heap.size := by omega); (try (obtain ⟨qg, qh, qk⟩ := cf2 hb1 (w.heap.size + 1 + 1); simp [go_sem, *] at qg qh qk)); (try have qp : w.heap.size + 1 + 1 < w1.heap.size := by omega)))
  refine bodyPost_ret (v := _) (by simp [results, Tryz.results64, go_sem, *]) rfl ⟨rfl, ?_⟩
  exact bel
 ·rw [quF, if_neg hz]
  have m2 := m.2.2.2.2.2.2 hz
  clear h1 h2
  have tok1 := trivial
  go_enter Tryz.func64, Tryz.ntmps64
  go_wp2_with (first | (have _t := tok1; go_at_call 50; refine (frMake_any _ _ _ (by omega) (by omega) (by omega) (by omega) (by omega)).mono ?_; rintro e w1 ⟨rfl, hb1⟩; clear tok1 _t; have hz1 := hb1.size; (try simp only [sA, sB, sC, sD] at hz1); (try (obtain ⟨qa, qb, qi⟩ := cf2 hb1 (w.heap.size); simp [go_sem, *] at qa qb qi)); (try have ql : w.heap.size < w1.heap.size := by omega); (try (obtain ⟨qc, qf, qj⟩ := cf2 hb1 (w.heap.size + 1); simp [go_sem, *] at qc qf qj)); (try have qm : w.heap.size + 1 < w1.heap.size := by omega); (try (obtain ⟨qg, qh, qk⟩ := cf2 hb1 (w.heap.size + 1 + 1); simp [go_sem, *] at qg qh qk)); (try have qp : w.heap.size + 1 + 1 < w1.heap.size := by omega)))
  refine bodyPost_ret (v := _) (by simp [results, Tryz.results64, go_sem, *]) rfl ⟨rfl, ?_⟩
  exact bel
theorem frInt_any (a : Int) (w : World) : Calls Tryz.prog 63 #[.int .i64 a] w fun e w' => e = .returned (.agg #[.int .i64 a, .int .i64 1]) ∧ Below w.heap.size w w' := by
 go_enter Tryz.func63, Tryz.ntmps63
 go_wp2
 refine bodyPost_ret (v := _) (by simp [results, Tryz.results63, go_sem, *]) rfl ⟨rfl, ?_⟩
 exact bel
theorem frTwo_any (n1 d1 n2 d2 : Int) (w : World) : Calls Tryz.prog 32 #[.agg #[.int .i64 n1, .int .i64 d1], .agg #[.int .i64 n2, .int .i64 d2]] w fun e w' =>
  e = .returned (.bool (frB n1 d1 && frB n2 d2)) ∧ Below w.heap.size w w' := by
 cases h : frB n1 d1
 ·have tok1 := trivial
  have tok2 := trivial
  go_enter Tryz.func32, Tryz.ntmps32
  go_wp2_with (first | (have _t := tok1; go_at_call 45; refine (frGood_any _ _ _).mono ?_; rintro e w1 ⟨rfl, hb1⟩; clear tok1 _t; have hz1 := hb1.size; (try simp only [sA, sB, sC, sD] at hz1); (try (obtain ⟨qa, qb, qg⟩ := cf2 hb1 (w.heap.size); simp [go_sem, *] at qa qb qg)); (try have qm : w.heap.size < w1.heap.size := by omega); (try (obtain ⟨qc, qf, qh⟩ := cf2 hb1 (w.heap.size + 1); simp [go_sem, *] at qc qf qh)); (try have qp : w.heap.size + 1 < w1.heap.size := by omega)) | (have _t := tok2; go_at_call 45; refine (frGood_any _ _ _).mono ?_; rintro e w2 ⟨rfl, hb2⟩; clear tok2 _t; have hz2 := hb2.size; (try simp only [sA, sB, sC, sD] at hz2); (try (obtain ⟨qi, qj, qq⟩ := cf2 hb2 (w.heap.size); simp [go_sem, *] at qi qj qq)); (try have qt : w.heap.size < w2.heap.size := by omega); (try (obtain ⟨qk, ql, qr⟩ := cf2 hb2 (w.heap.size + 1); simp [go_sem, *] at qk ql qr)); (try have qu : w.heap.size + 1 < w2.heap.size := by omega); (try clear qa qb qg); (try clear qm); (try clear qc qf qh); (try clear qp)))
  go_ret
  refine ⟨rfl, ?_⟩
  exact bel
 ·rw [Bool.true_and]
  have tok1 := trivial
  have tok2 := trivial
  go_enter Tryz.func32, Tryz.ntmps32
  go_wp2_with (first | (have _t := tok1; go_at_call 45; refine (frGood_any _ _ _).mono ?_; rintro e w1 ⟨rfl, hb1⟩; clear tok1 _t; have hz1 := hb1.size; (try simp only [sA, sB, sC, sD] at hz1); (try (obtain ⟨qa, qb, qg⟩ := cf2 hb1 (w.heap.size); simp [go_sem, *] at qa qb qg)); (try have qm : w.heap.size < w1.heap.size := by omega); (try (obtain ⟨qc, qf, qh⟩ := cf2 hb1 (w.heap.size + 1); simp [go_sem, *] at qc qf qh)); (try have qp : w.heap.size + 1 < w1.heap.size := by omega)) | (have _t := tok2; go_at_call 45; refine (frGood_any _ _ _).mono ?_; rintro e w2 ⟨rfl, hb2⟩; clear tok2 _t; have hz2 := hb2.size; (try simp only [sA, sB, sC, sD] at hz2); (try (obtain ⟨qi, qj, qq⟩ := cf2 hb2 (w.heap.size); simp [go_sem, *] at qi qj qq)); (try have qt : w.heap.size < w2.heap.size := by omega); (try (obtain ⟨qk, ql, qr⟩ := cf2 hb2 (w.heap.size + 1); simp [go_sem, *] at qk ql qr)); (try have qu : w.heap.size + 1 < w2.heap.size := by omega); (try clear qa qb qg); (try clear qm); (try clear qc qf qh); (try clear qp)))
  go_ret
  refine ⟨rfl, ?_⟩
  exact bel

/-! ### The program's four operations -/
theorem ProductOf_any {n1 d1 n2 d2 : Int} (w : World) (h1 : frB n1 d1 = true) (h2 : frB n2 d2 = true) : Calls Tryz.prog 60 #[.agg #[.int .i64 n1, .int .i64 d1], .agg #[.int .i64 n2, .int .i64 d2]] w fun e w' =>
  e = .returned (.tuple #[.agg #[.int .i64 (prF n1 d1 n2 d2).1, .int .i64 (prF n1 d1 n2 d2).2.1], .bool (prF n1 d1 n2 d2).2.2]) ∧ Below w.heap.size w w' := by
 have m := frB_mul h1 h2
 have FR := fun W : World => Lib.hid (isFraction_any n1 d1 W)
 have FR2 := fun W : World => Lib.hid (isFraction_any n2 d2 W)
 rw [h1] at FR
 rw [h2] at FR2
 unfold prF
 clear h1 h2
 have tok1 := trivial
 have tok2 := trivial
 have tok3 := trivial
 go_enter Tryz.func60, Tryz.ntmps60
 go_wp2_with (first | (have _t := tok1; go_at_call 24; refine ((FR _).out).mono ?_; rintro e w1 ⟨rfl, hb1⟩; clear tok1 _t; have hz1 := hb1.size; (try simp only [sA, sB, sC, sD] at hz1); (try (obtain ⟨qa, qb, qi⟩ := cf2 hb1 (w.heap.size); simp [go_sem, *] at qa qb qi)); (try have qu : w.heap.size < w1.heap.size := by omega); (try (obtain ⟨qc, qf, qj⟩ := cf2 hb1 (w.heap.size + 1); simp [go_sem, *] at qc qf qj)); (try have qw : w.heap.size + 1 < w1.heap.size := by omega); (try (obtain ⟨qg, qh, qk⟩ := cf2 hb1 (w.heap.size + 1 + 1); simp [go_sem, *] at qg qh qk)); (try have qz : w.heap.size + 1 + 1 < w1.heap.size := by omega)) | (have _t := tok2; go_at_call 24; refine ((FR2 _).out).mono ?_; rintro e w2 ⟨rfl, hb2⟩; clear tok2 _t; have hz2 := hb2.size; (try simp only [sA, sB, sC, sD] at hz2); (try (obtain ⟨ql, qm, xa⟩ := cf2 hb2 (w.heap.size); simp [go_sem, *] at ql qm xa)); (try have xk : w.heap.size < w2.heap.size := by omega); (try (obtain ⟨qp, qq, xb⟩ := cf2 hb2 (w.heap.size + 1); simp [go_sem, *] at qp qq xb)); (try have xl : w.heap.size + 1 < w2.heap.size := by omega); (try (obtain ⟨qr, qt, xc⟩ := cf2 hb2 (w.heap.size + 1 + 1); simp [go_sem, *] at qr qt xc)); (try have xm : w.heap.size + 1 + 1 < w2.heap.size := by omega); (try clear qa qb qi); (try clear qu); (try clear qc qf qj); (try clear qw); (try clear qg qh qk); (try clear qz)) | (have _t := tok3; go_at_call 62; refine (makeFraction_any _ _ _ (by omega) (by omega) (by omega) (by omega) (by omega)).mono ?_; rintro e w3 ⟨rfl, hb3⟩; clear tok3 _t; have hz3 := hb3.size; (try simp only [sA, sB, sC, sD] at hz3); (try (obtain ⟨xe, xf, xp⟩ := cf2 hb3 (w.heap.size); simp [go_sem, *] at xe xf xp)); (try have xt : w.heap.size < w3.heap.size := by omega); (try (obtain ⟨xg, xh, xq⟩ := cf2 hb3 (w.heap.size + 1); simp [go_sem, *] at xg xh xq)); (try have xu : w.heap.size + 1 < w3.heap.size := by omega); (try (obtain ⟨xi, xj, xr⟩ := cf2 hb3 (w.heap.size + 1 + 1); simp [go_sem, *] at xi xj xr)); (try have xv : w.heap.size + 1 + 1 < w3.heap.size := by omega); (try clear qa qb qi); (try clear qu); (try clear qc qf qj); (try clear qw); (try clear qg qh qk); (try clear qz); (try clear ql qm xa); (try clear xk); (try clear qp qq xb); (try clear xl); (try clear qr qt xc); (try clear xm)))
 refine bodyPost_ret (v := _) (by simp [results, Tryz.results60, go_sem, *]) rfl ⟨rfl, ?_⟩
 exact bel
theorem SumOf_any {n1 d1 n2 d2 : Int} (w : World) (h1 : frB n1 d1 = true) (h2 : frB n2 d2 = true) : Calls Tryz.prog 88 #[.agg #[.int .i64 n1, .int .i64 d1], .agg #[.int .i64 n2, .int .i64 d2]] w fun e w' =>
  e = .returned (.tuple #[.agg #[.int .i64 (suF n1 d1 n2 d2).1, .int .i64 (suF n1 d1 n2 d2).2.1], .bool (suF n1 d1 n2 d2).2.2]) ∧ Below w.heap.size w w' := by
 have m := frB_mul h1 h2
 have FR := fun W : World => Lib.hid (isFraction_any n1 d1 W)
 have FR2 := fun W : World => Lib.hid (isFraction_any n2 d2 W)
 rw [h1] at FR
 rw [h2] at FR2
 unfold suF
 clear h1 h2
 have tok1 := trivial
 have tok2 := trivial
 have tok3 := trivial
 go_enter Tryz.func88, Tryz.ntmps88
 go_wp2_with (first | (have _t := tok1; go_at_call 24; refine ((FR _).out).mono ?_; rintro e w1 ⟨rfl, hb1⟩; clear tok1 _t; have hz1 := hb1.size; (try simp only [sA, sB, sC, sD] at hz1); (try (obtain ⟨qa, qb, qi⟩ := cf2 hb1 (w.heap.size); simp [go_sem, *] at qa qb qi)); (try have qu : w.heap.size < w1.heap.size := by omega); (try (obtain ⟨qc, qf, qj⟩ := cf2 hb1 (w.heap.size + 1); simp [go_sem, *] at qc qf qj)); (try have qw : w.heap.size + 1 < w1.heap.size := by omega); (try (obtain ⟨qg, qh, qk⟩ := cf2 hb1 (w.heap.size + 1 + 1); simp [go_sem, *] at qg qh qk)); (try have qz : w.heap.size + 1 + 1 < w1.heap.size := by omega)) | (have _t := tok2; go_at_call 24; refine ((FR2 _).out).mono ?_; rintro e w2 ⟨rfl, hb2⟩; clear tok2 _t; have hz2 := hb2.size; (try simp only [sA, sB, sC, sD] at hz2); (try (obtain ⟨ql, qm, xa⟩ := cf2 hb2 (w.heap.size); simp [go_sem, *] at ql qm xa)); (try have xk : w.heap.size < w2.heap.size := by omega); (try (obtain ⟨qp, qq, xb⟩ := cf2 hb2 (w.heap.size + 1); simp [go_sem, *] at qp qq xb)); (try have xl : w.heap.size + 1 < w2.heap.size := by omega); (try (obtain ⟨qr, qt, xc⟩ := cf2 hb2 (w.heap.size + 1 + 1); simp [go_sem, *] at qr qt xc)); (try have xm : w.heap.size + 1 + 1 < w2.heap.size := by omega); (try clear qa qb qi); (try clear qu); (try clear qc qf qj); (try clear qw); (try clear qg qh qk); (try clear qz)) | (have _t := tok3; go_at_call 62; refine (makeFraction_any _ _ _ (by omega) (by omega) (by omega) (by omega) (by omega)).mono ?_; rintro e w3 ⟨rfl, hb3⟩; clear tok3 _t; have hz3 := hb3.size; (try simp only [sA, sB, sC, sD] at hz3); (try (obtain ⟨xe, xf, xp⟩ := cf2 hb3 (w.heap.size); simp [go_sem, *] at xe xf xp)); (try have xt : w.heap.size < w3.heap.size := by omega); (try (obtain ⟨xg, xh, xq⟩ := cf2 hb3 (w.heap.size + 1); simp [go_sem, *] at xg xh xq)); (try have xu : w.heap.size + 1 < w3.heap.size := by omega); (try (obtain ⟨xi, xj, xr⟩ := cf2 hb3 (w.heap.size + 1 + 1); simp [go_sem, *] at xi xj xr)); (try have xv : w.heap.size + 1 + 1 < w3.heap.size := by omega); (try clear qa qb qi); (try clear qu); (try clear qc qf qj); (try clear qw); (try clear qg qh qk); (try clear qz); (try clear ql qm xa); (try clear xk); (try clear qp qq xb); (try clear xl); (try clear qr qt xc); (try clear xm)))
 refine bodyPost_ret (v := _) (by simp [results, Tryz.results88, go_sem, *]) rfl ⟨rfl, ?_⟩
 exact bel
theorem DifferenceOf_any {n1 d1 n2 d2 : Int} (w : World) (h1 : frB n1 d1 = true) (h2 : frB n2 d2 = true) : Calls Tryz.prog 61 #[.agg #[.int .i64 n1, .int .i64 d1], .agg #[.int .i64 n2, .int .i64 d2]] w fun e w' =>
  e = .returned (.tuple #[.agg #[.int .i64 (diF n1 d1 n2 d2).1, .int .i64 (diF n1 d1 n2 d2).2.1], .bool (diF n1 d1 n2 d2).2.2]) ∧ Below w.heap.size w w' := by
 have m := frB_mul h1 h2
 have FR := fun W : World => Lib.hid (isFraction_any n1 d1 W)
 have FR2 := fun W : World => Lib.hid (isFraction_any n2 d2 W)
 rw [h1] at FR
 rw [h2] at FR2
 unfold diF
 clear h1 h2
 have tok1 := trivial
 have tok2 := trivial
 have tok3 := trivial
 go_enter Tryz.func61, Tryz.ntmps61
 go_wp2_with (first | (have _t := tok1; go_at_call 24; refine ((FR _).out).mono ?_; rintro e w1 ⟨rfl, hb1⟩; clear tok1 _t; have hz1 := hb1.size; (try simp only [sA, sB, sC, sD] at hz1); (try (obtain ⟨qa, qb, qi⟩ := cf2 hb1 (w.heap.size); simp [go_sem, *] at qa qb qi)); (try have qu : w.heap.size < w1.heap.size := by omega); (try (obtain ⟨qc, qf, qj⟩ := cf2 hb1 (w.heap.size + 1); simp [go_sem, *] at qc qf qj)); (try have qw : w.heap.size + 1 < w1.heap.size := by omega); (try (obtain ⟨qg, qh, qk⟩ := cf2 hb1 (w.heap.size + 1 + 1); simp [go_sem, *] at qg qh qk)); (try have qz : w.heap.size + 1 + 1 < w1.heap.size := by omega)) | (have _t := tok2; go_at_call 24; refine ((FR2 _).out).mono ?_; rintro e w2 ⟨rfl, hb2⟩; clear tok2 _t; have hz2 := hb2.size; (try simp only [sA, sB, sC, sD] at hz2); (try (obtain ⟨ql, qm, xa⟩ := cf2 hb2 (w.heap.size); simp [go_sem, *] at ql qm xa)); (try have xk : w.heap.size < w2.heap.size := by omega); (try (obtain ⟨qp, qq, xb⟩ := cf2 hb2 (w.heap.size + 1); simp [go_sem, *] at qp qq xb)); (try have xl : w.heap.size + 1 < w2.heap.size := by omega); (try (obtain ⟨qr, qt, xc⟩ := cf2 hb2 (w.heap.size + 1 + 1); simp [go_sem, *] at qr qt xc)); (try have xm : w.heap.size + 1 + 1 < w2.heap.size := by omega); (try clear qa qb qi); (try clear qu); (try clear qc qf qj); (try clear qw); (try clear qg qh qk); (try clear qz)) | (have _t := tok3; go_at_call 62; refine (makeFraction_any _ _ _ (by omega) (by omega) (by omega) (by omega) (by omega)).mono ?_; rintro e w3 ⟨rfl, hb3⟩; clear tok3 _t; have hz3 := hb3.size; (try simp only [sA, sB, sC, sD] at hz3); (try (obtain ⟨xe, xf, xp⟩ := cf2 hb3 (w.heap.size); simp [go_sem, *] at xe xf xp)); (try have xt : w.heap.size < w3.heap.size := by omega); (try (obtain ⟨xg, xh, xq⟩ := cf2 hb3 (w.heap.size + 1); simp [go_sem, *] at xg xh xq)); (try have xu : w.heap.size + 1 < w3.heap.size := by omega); (try (obtain ⟨xi, xj, xr⟩ := cf2 hb3 (w.heap.size + 1 + 1); simp [go_sem, *] at xi xj xr)); (try have xv : w.heap.size + 1 + 1 < w3.heap.size := by omega); (try clear qa qb qi); (try clear qu); (try clear qc qf qj); (try clear qw); (try clear qg qh qk); (try clear qz); (try clear ql qm xa); (try clear xk); (try clear qp qq xb); (try clear xl); (try clear qr qt xc); (try clear xm)))
 refine bodyPost_ret (v := _) (by simp [results, Tryz.results61, go_sem, *]) rfl ⟨rfl, ?_⟩
 exact bel
theorem QuotientOf_any {n1 d1 n2 d2 : Int} (w : World) (h1 : frB n1 d1 = true) (h2 : frB n2 d2 = true) : Calls Tryz.prog 59 #[.agg #[.int .i64 n1, .int .i64 d1], .agg #[.int .i64 n2, .int .i64 d2]] w fun e w' =>
  e = .returned (.tuple #[.agg #[.int .i64 (quF n1 d1 n2 d2).1, .int .i64 (quF n1 d1 n2 d2).2.1], .bool (quF n1 d1 n2 d2).2.2]) ∧ Below w.heap.size w w' := by
 have m := frB_mul h1 h2
 have FR := fun W : World => Lib.hid (isFraction_any n1 d1 W)
 have FR2 := fun W : World => Lib.hid (isFraction_any n2 d2 W)
 rw [h1] at FR
 rw [h2] at FR2
 by_cases hz : n2 = 0
 ·rw [quF, if_pos hz]
  subst hz
  clear h1 h2 m
  have tok1 := trivial
  have tok2 := trivial
  have tok3 := trivial
  go_enter Tryz.func59, Tryz.ntmps59
  go_wp2_with (first | (have _t := tok1; go_at_call 24; refine ((FR _).out).mono ?_; rintro e w1 ⟨rfl, hb1⟩; clear tok1 _t; have hz1 := hb1.size; (try simp only [sA, sB, sC, sD] at hz1); (try (obtain ⟨qa, qb, qi⟩ := cf2 hb1 (w.heap.size); simp [go_sem, *] at qa qb qi)); (try have qu : w.heap.size < w1.heap.size := by omega); (try (obtain ⟨qc, qf, qj⟩ := cf2 hb1 (w.heap.size + 1); simp [go_sem, *] at qc qf qj)); (try have qw : w.heap.size + 1 < w1.heap.size := by omega); (try (obtain ⟨qg, qh, qk⟩ := cf2 hb1 (w.heap.size + 1 + 1); simp [go_sem, *] at qg qh qk)); (try have qz : w.heap.size + 1 + 1 < w1.heap.size := by omega)) | (have _t := tok2; go_at_call 24; refine ((FR2 _).out).mono ?_; rintro e w2 ⟨rfl, hb2⟩; clear tok2 _t; have hz2 := hb2.size; (try simp only [sA, sB, sC, sD] at hz2); (try (obtain ⟨ql, qm, xa⟩ := cf2 hb2 (w.heap.size); simp [go_sem, *] at ql qm xa)); (try have xk : w.heap.size < w2.heap.size := by omega); (try (obtain ⟨qp, qq, xb⟩ := cf2 hb2 (w.heap.size + 1); simp [go_sem, *] at qp qq xb)); (try have xl : w.heap.size + 1 < w2.heap.size := by omega); (try (obtain ⟨qr, qt, xc⟩ := cf2 hb2 (w.heap.size + 1 + 1); simp [go_sem, *] at qr qt xc)); (try have xm : w.heap.size + 1 + 1 < w2.heap.size := by omega); (try clear qa qb qi); (try clear qu); (try clear qc qf qj); (try clear qw); (try clear qg qh qk); (try clear qz)) | (have _t := tok3; go_at_call 62; refine (makeFraction_any _ _ _ (by omega) (by omega) (by omega) (by omega) (by omega)).mono ?_; rintro e w3 ⟨rfl, hb3⟩; clear tok3 _t; have hz3 := hb3.size; (try simp only [sA, sB, sC, sD] at hz3); (try (obtain ⟨xe, xf, xp⟩ := cf2 hb3 (w.heap.size); simp [go_sem, *] at xe xf xp)); (try have xt : w.heap.size < w3.heap.size := by omega); (try (obtain ⟨xg, xh, xq⟩ := cf2 hb3 (w.heap.size + 1); simp [go_sem, *] at xg xh xq)); (try have xu : w.heap.size + 1 < w3.heap.size := by omega); (try (obtain ⟨xi, xj, xr⟩ := cf2 hb3 (w.heap.size + 1 + 1); simp [go_sem, *] at xi xj xr)); (try have xv : w.heap.size + 1 + 1 < w3.heap.size := by omega); (try clear qa qb qi); (try clear qu); (try clear qc qf qj); (try clear qw); (try clear qg qh qk); (try clear qz); (try clear ql qm xa); (try clear xk); (try clear qp qq xb); (try clear xl); (try clear qr qt xc); (try clear xm)))
  refine bodyPost_ret (v := _) (by simp [results, Tryz.results59, go_sem, *]) rfl ⟨rfl, ?_⟩
  exact bel
 ·rw [quF, if_neg hz]
  have m2 := m.2.2.2.2.2.2 hz
  have hz' : (n2 == 0) = false := by simp [hz]
  clear h1 h2
  have tok1 := trivial
  have tok2 := trivial
  have tok3 := trivial
  go_enter Tryz.func59, Tryz.ntmps59
  go_wp2_with (first | (have _t := tok1; go_at_call 24; refine ((FR _).out).mono ?_; rintro e w1 ⟨rfl, hb1⟩; clear tok1 _t; have hz1 := hb1.size; (try simp only [sA, sB, sC, sD] at hz1); (try (obtain ⟨qa, qb, qi⟩ := cf2 hb1 (w.heap.size); simp [go_sem, *] at qa qb qi)); (try have qu : w.heap.size < w1.heap.size := by omega); (try (obtain ⟨qc, qf, qj⟩ := cf2 hb1 (w.heap.size + 1); simp [go_sem, *] at qc qf qj)); (try have qw : w.heap.size + 1 < w1.heap.size := by omega); (try (obtain ⟨qg, qh, qk⟩ := cf2 hb1 (w.heap.size + 1 + 1); simp [go_sem, *] at qg qh qk)); (try have qz : w.heap.size + 1 + 1 < w1.heap.size := by omega)) | (have _t := tok2; go_at_call 24; refine ((FR2 _).out).mono ?_; rintro e w2 ⟨rfl, hb2⟩; clear tok2 _t; have hz2 := hb2.size; (try simp only [sA, sB, sC, sD] at hz2); (try (obtain ⟨ql, qm, xa⟩ := cf2 hb2 (w.heap.size); simp [go_sem, *] at ql qm xa)); (try have xk : w.heap.size < w2.heap.size := by omega); (try (obtain ⟨qp, qq, xb⟩ := cf2 hb2 (w.heap.size + 1); simp [go_sem, *] at qp qq xb)); (try have xl : w.heap.size + 1 < w2.heap.size := by omega); (try (obtain ⟨qr, qt, xc⟩ := cf2 hb2 (w.heap.size + 1 + 1); simp [go_sem, *] at qr qt xc)); (try have xm : w.heap.size + 1 + 1 < w2.heap.size := by omega); (try clear qa qb qi); (try clear qu); (try clear qc qf qj); (try clear qw); (try clear qg qh qk); (try clear qz)) | (have _t := tok3; go_at_call 62; refine (makeFraction_any _ _ _ (by omega) (by omega) (by omega) (by omega) (by omega)).mono ?_; rintro e w3 ⟨rfl, hb3⟩; clear tok3 _t; have hz3 := hb3.size; (try simp only [sA, sB, sC, sD] at hz3); (try (obtain ⟨xe, xf, xp⟩ := cf2 hb3 (w.heap.size); simp [go_sem, *] at xe xf xp)); (try have xt : w.heap.size < w3.heap.size := by omega); (try (obtain ⟨xg, xh, xq⟩ := cf2 hb3 (w.heap.size + 1); simp [go_sem, *] at xg xh xq)); (try have xu : w.heap.size + 1 < w3.heap.size := by omega); (try (obtain ⟨xi, xj, xr⟩ := cf2 hb3 (w.heap.size + 1 + 1); simp [go_sem, *] at xi xj xr)); (try have xv : w.heap.size + 1 + 1 < w3.heap.size := by omega); (try clear qa qb qi); (try clear qu); (try clear qc qf qj); (try clear qw); (try clear qg qh qk); (try clear qz); (try clear ql qm xa); (try clear xk); (try clear qp qq xb); (try clear xl); (try clear qr qt xc); (try clear xm)))
  refine bodyPost_ret (v := _) (by simp [results, Tryz.results59, go_sem, *]) rfl ⟨rfl, ?_⟩
  exact bel
end
section
open Go.RowKit
set_option linter.unusedVariables false
set_option maxHeartbeats 4000000
set_option maxRecDepth 20000
set_option linter.unusedSimpArgs false
theorem keep_any (n d : Int) (ok v : Bool) (w : World) (p : Nat) (hp : w.heap[p]? = some (.cells #[.bool v] 54 (0, 0))) :
  Calls Tryz.prog 58 #[.pointer (some ⟨p, 0, none⟩), .agg #[.int .i64 n, .int .i64 d], .bool ok] w fun e w' =>
   e = .returned (.agg #[.int .i64 (stN v (n, d, ok)), .int .i64 (stD v (n, d, ok))]) ∧ Cal 54 w w' p (v && ok) := by
 have hc := cell_of_one hp
 have hf := free_of_one hp
 have hl : p < w.heap.size := lt_of_block hp
 have hnot : ∀ (x : Bool) (w : World), (Op.unary .not (.bool x)).run Tryz.prog w = .ok (.bool (!x)) w := fun _ _ => rfl
 have HP := Lib.hid hp
 clear hp
 unfold stN stD
 cases v <;> cases ok
 all_goals
  go_enter Tryz.func58, Tryz.ntmps58
  go_wp2
  refine bodyPost_ret (v := _) (by simp [results, Tryz.results58, go_sem, *]) rfl ⟨rfl, ?_⟩
  (exact cal)
theorem ctimes_any {n1 d1 n2 d2 : Int} (v : Bool) (w : World) (p : Nat) (hp : w.heap[p]? = some (.cells #[.bool v] 54 (0, 0))) (h1 : frB n1 d1 = true) (h2 : frB n2 d2 = true) :
  Calls Tryz.prog 27 #[.pointer (some ⟨p, 0, none⟩), .agg #[.int .i64 n1, .int .i64 d1], .agg #[.int .i64 n2, .int .i64 d2]] w fun e w' =>
   e = .returned (.agg #[.int .i64 (stN v (prF n1 d1 n2 d2)), .int .i64 (stD v (prF n1 d1 n2 d2))]) ∧ Cal 54 w w' p (v && (prF n1 d1 n2 d2).2.2) := by
 have hl : p < w.heap.size := lt_of_block hp
 have HP := Lib.hid hp
 clear hp
 have tok1 := trivial
 have tok2 := trivial
 go_enter Tryz.func27, Tryz.ntmps27
 go_wp2_with (first | (have _t := tok1; go_at_call 60; refine (ProductOf_any _ h1 h2).mono ?_; rintro e w1 ⟨rfl, hb1⟩; clear tok1 _t; have hz1 := hb1.size; (try simp only [sA, sB, sC, sD] at hz1); (try (obtain ⟨qa, qb, qi⟩ := cf2 hb1 (w.heap.size); simp [go_sem, *] at qa qb qi)); (try have xa : w.heap.size < w1.heap.size := by omega); (try (obtain ⟨qc, qf, qj⟩ := cf2 hb1 (w.heap.size + 1); simp [go_sem, *] at qc qf qj)); (try have xb : w.heap.size + 1 < w1.heap.size := by omega); (try (obtain ⟨qg, qh, qk⟩ := cf2 hb1 (w.heap.size + 1 + 1); simp [go_sem, *] at qg qh qk)); (try have xc : w.heap.size + 1 + 1 < w1.heap.size := by omega)) | (have _t := tok2; go_at_call 58; refine (keep_any _ _ _ v _ p (Cal.at_ (w := w) cal)).mono ?_; rintro e w2 ⟨rfl, hb2⟩; clear tok2 _t; have hz2 := hb2.size; (try simp only [sA, sB, sC, sD] at hz2); (try (refine calCell' hb2 (w.heap.size) 0 ?_ ?_ ?_; (focus (go_size; done)); (focus (omega; done)); intro qp; simp [go_sem, *] at qp)); (try (refine calCell' hb2 (w.heap.size) 1 ?_ ?_ ?_; (focus (go_size; done)); (focus (omega; done)); intro qq; simp [go_sem, *] at qq)); (try (refine calFroz' hb2 (w.heap.size) ?_ ?_ ?_; (focus (go_size; done)); (focus (omega; done)); intro xe; simp [go_sem, *] at xe)); (try (refine (fun (xi : w.heap.size < w2.heap.size) => ?_) ?_; rotate_left; (focus (omega; done)))); (try (refine calCell' hb2 (w.heap.size + 1) 0 ?_ ?_ ?_; (focus (go_size; done)); (focus (omega; done)); intro qr; simp [go_sem, *] at qr)); (try (refine calCell' hb2 (w.heap.size + 1) 1 ?_ ?_ ?_; (focus (go_size; done)); (focus (omega; done)); intro qt; simp [go_sem, *] at qt)); (try (refine calFroz' hb2 (w.heap.size + 1) ?_ ?_ ?_; (focus (go_size; done)); (focus (omega; done)); intro xf; simp [go_sem, *] at xf)); (try (refine (fun (xj : w.heap.size + 1 < w2.heap.size) => ?_) ?_; rotate_left; (focus (omega; done)))); (try (refine calCell' hb2 (w.heap.size + 1 + 1) 0 ?_ ?_ ?_; (focus (go_size; done)); (focus (omega; done)); intro qu; simp [go_sem, *] at qu)); (try (refine calCell' hb2 (w.heap.size + 1 + 1) 1 ?_ ?_ ?_; (focus (go_size; done)); (focus (omega; done)); intro qw; simp [go_sem, *] at qw)); (try (refine calFroz' hb2 (w.heap.size + 1 + 1) ?_ ?_ ?_; (focus (go_size; done)); (focus (omega; done)); intro xg; simp [go_sem, *] at xg)); (try (refine (fun (xk : w.heap.size + 1 + 1 < w2.heap.size) => ?_) ?_; rotate_left; (focus (omega; done)))); (try (refine calCell' hb2 (w1.heap.size) 0 ?_ ?_ ?_; (focus (go_size; done)); (focus (omega; done)); intro ql; simp [go_sem, *] at ql)); (try (refine calCell' hb2 (w1.heap.size) 1 ?_ ?_ ?_; (focus (go_size; done)); (focus (omega; done)); intro qm; simp [go_sem, *] at qm)); (try (refine calFroz' hb2 (w1.heap.size) ?_ ?_ ?_; (focus (go_size; done)); (focus (omega; done)); intro qz; simp [go_sem, *] at qz)); (try (refine (fun (xh : w1.heap.size < w2.heap.size) => ?_) ?_; rotate_left; (focus (omega; done)))); have kp2 := calAt hb2; have fp2 := calFree hb2; have lp2 := Cal.lt hb2; (try clear kp1); (try clear fp1); (try clear qa qb qi); (try clear xa); (try clear qc qf qj); (try clear xb); (try clear qg qh qk); (try clear xc)))
 refine bodyPost_ret (v := _) (by simp [results, Tryz.results27, go_sem, *]) rfl ⟨rfl, ?_⟩
 (exact cal)
theorem cplus_any {n1 d1 n2 d2 : Int} (v : Bool) (w : World) (p : Nat) (hp : w.heap[p]? = some (.cells #[.bool v] 54 (0, 0))) (h1 : frB n1 d1 = true) (h2 : frB n2 d2 = true) :
  Calls Tryz.prog 57 #[.pointer (some ⟨p, 0, none⟩), .agg #[.int .i64 n1, .int .i64 d1], .agg #[.int .i64 n2, .int .i64 d2]] w fun e w' =>
   e = .returned (.agg #[.int .i64 (stN v (suF n1 d1 n2 d2)), .int .i64 (stD v (suF n1 d1 n2 d2))]) ∧ Cal 54 w w' p (v && (suF n1 d1 n2 d2).2.2) := by
 have hl : p < w.heap.size := lt_of_block hp
 have HP := Lib.hid hp
 clear hp
 have tok1 := trivial
 have tok2 := trivial
 go_enter Tryz.func57, Tryz.ntmps57
 go_wp2_with (first | (have _t := tok1; go_at_call 88; refine (SumOf_any _ h1 h2).mono ?_; rintro e w1 ⟨rfl, hb1⟩; clear tok1 _t; have hz1 := hb1.size; (try simp only [sA, sB, sC, sD] at hz1); (try (obtain ⟨qa, qb, qi⟩ := cf2 hb1 (w.heap.size); simp [go_sem, *] at qa qb qi)); (try have xa : w.heap.size < w1.heap.size := by omega); (try (obtain ⟨qc, qf, qj⟩ := cf2 hb1 (w.heap.size + 1); simp [go_sem, *] at qc qf qj)); (try have xb : w.heap.size + 1 < w1.heap.size := by omega); (try (obtain ⟨qg, qh, qk⟩ := cf2 hb1 (w.heap.size + 1 + 1); simp [go_sem, *] at qg qh qk)); (try have xc : w.heap.size + 1 + 1 < w1.heap.size := by omega)) | (have _t := tok2; go_at_call 58; refine (keep_any _ _ _ v _ p (Cal.at_ (w := w) cal)).mono ?_; rintro e w2 ⟨rfl, hb2⟩; clear tok2 _t; have hz2 := hb2.size; (try simp only [sA, sB, sC, sD] at hz2); (try (refine calCell' hb2 (w.heap.size) 0 ?_ ?_ ?_; (focus (go_size; done)); (focus (omega; done)); intro qp; simp [go_sem, *] at qp)); (try (refine calCell' hb2 (w.heap.size) 1 ?_ ?_ ?_; (focus (go_size; done)); (focus (omega; done)); intro qq; simp [go_sem, *] at qq)); (try (refine calFroz' hb2 (w.heap.size) ?_ ?_ ?_; (focus (go_size; done)); (focus (omega; done)); intro xe; simp [go_sem, *] at xe)); (try (refine (fun (xi : w.heap.size < w2.heap.size) => ?_) ?_; rotate_left; (focus (omega; done)))); (try (refine calCell' hb2 (w.heap.size + 1) 0 ?_ ?_ ?_; (focus (go_size; done)); (focus (omega; done)); intro qr; simp [go_sem, *] at qr)); (try (refine calCell' hb2 (w.heap.size + 1) 1 ?_ ?_ ?_; (focus (go_size; done)); (focus (omega; done)); intro qt; simp [go_sem, *] at qt)); (try (refine calFroz' hb2 (w.heap.size + 1) ?_ ?_ ?_; (focus (go_size; done)); (focus (omega; done)); intro xf; simp [go_sem, *] at xf)); (try (refine (fun (xj : w.heap.size + 1 < w2.heap.size) => ?_) ?_; rotate_left; (focus (omega; done)))); (try (refine calCell' hb2 (w.heap.size + 1 + 1) 0 ?_ ?_ ?_; (focus (go_size; done)); (focus (omega; done)); intro qu; simp [go_sem, *] at qu)); (try (refine calCell' hb2 (w.heap.size + 1 + 1) 1 ?_ ?_ ?_; (focus (go_size; done)); (focus (omega; done)); intro qw; simp [go_sem, *] at qw)); (try (refine calFroz' hb2 (w.heap.size + 1 + 1) ?_ ?_ ?_; (focus (go_size; done)); (focus (omega; done)); intro xg; simp [go_sem, *] at xg)); (try (refine (fun (xk : w.heap.size + 1 + 1 < w2.heap.size) => ?_) ?_; rotate_left; (focus (omega; done)))); (try (refine calCell' hb2 (w1.heap.size) 0 ?_ ?_ ?_; (focus (go_size; done)); (focus (omega; done)); intro ql; simp [go_sem, *] at ql)); (try (refine calCell' hb2 (w1.heap.size) 1 ?_ ?_ ?_; (focus (go_size; done)); (focus (omega; done)); intro qm; simp [go_sem, *] at qm)); (try (refine calFroz' hb2 (w1.heap.size) ?_ ?_ ?_; (focus (go_size; done)); (focus (omega; done)); intro qz; simp [go_sem, *] at qz)); (try (refine (fun (xh : w1.heap.size < w2.heap.size) => ?_) ?_; rotate_left; (focus (omega; done)))); have kp2 := calAt hb2; have fp2 := calFree hb2; have lp2 := Cal.lt hb2; (try clear kp1); (try clear fp1); (try clear qa qb qi); (try clear xa); (try clear qc qf qj); (try clear xb); (try clear qg qh qk); (try clear xc)))
 refine bodyPost_ret (v := _) (by simp [results, Tryz.results57, go_sem, *]) rfl ⟨rfl, ?_⟩
 (exact cal)
theorem cminus_any {n1 d1 n2 d2 : Int} (v : Bool) (w : World) (p : Nat) (hp : w.heap[p]? = some (.cells #[.bool v] 54 (0, 0))) (h1 : frB n1 d1 = true) (h2 : frB n2 d2 = true) :
  Calls Tryz.prog 28 #[.pointer (some ⟨p, 0, none⟩), .agg #[.int .i64 n1, .int .i64 d1], .agg #[.int .i64 n2, .int .i64 d2]] w fun e w' =>
   e = .returned (.agg #[.int .i64 (stN v (diF n1 d1 n2 d2)), .int .i64 (stD v (diF n1 d1 n2 d2))]) ∧ Cal 54 w w' p (v && (diF n1 d1 n2 d2).2.2) := by
 have hl : p < w.heap.size := lt_of_block hp
 have HP := Lib.hid hp
 clear hp
 have tok1 := trivial
 have tok2 := trivial
 go_enter Tryz.func28, Tryz.ntmps28
 go_wp2_with (first | (have _t := tok1; go_at_call 61; refine (DifferenceOf_any _ h1 h2).mono ?_; rintro e w1 ⟨rfl, hb1⟩; clear tok1 _t; have hz1 := hb1.size; (try simp only [sA, sB, sC, sD] at hz1); (try (obtain ⟨qa, qb, qi⟩ := cf2 hb1 (w.heap.size); simp [go_sem, *] at qa qb qi)); (try have xa : w.heap.size < w1.heap.size := by omega); (try (obtain ⟨qc, qf, qj⟩ := cf2 hb1 (w.heap.size + 1); simp [go_sem, *] at qc qf qj)); (try have xb : w.heap.size + 1 < w1.heap.size := by omega); (try (obtain ⟨qg, qh, qk⟩ := cf2 hb1 (w.heap.size + 1 + 1); simp [go_sem, *] at qg qh qk)); (try have xc : w.heap.size + 1 + 1 < w1.heap.size := by omega)) | (have _t := tok2; go_at_call 58; refine (keep_any _ _ _ v _ p (Cal.at_ (w := w) cal)).mono ?_; rintro e w2 ⟨rfl, hb2⟩; clear tok2 _t; have hz2 := hb2.size; (try simp only [sA, sB, sC, sD] at hz2); (try (refine calCell' hb2 (w.heap.size) 0 ?_ ?_ ?_; (focus (go_size; done)); (focus (omega; done)); intro qp; simp [go_sem, *] at qp)); (try (refine calCell' hb2 (w.heap.size) 1 ?_ ?_ ?_; (focus (go_size; done)); (focus (omega; done)); intro qq; simp [go_sem, *] at qq)); (try (refine calFroz' hb2 (w.heap.size) ?_ ?_ ?_; (focus (go_size; done)); (focus (omega; done)); intro xe; simp [go_sem, *] at xe)); (try (refine (fun (xi : w.heap.size < w2.heap.size) => ?_) ?_; rotate_left; (focus (omega; done)))); (try (refine calCell' hb2 (w.heap.size + 1) 0 ?_ ?_ ?_; (focus (go_size; done)); (focus (omega; done)); intro qr; simp [go_sem, *] at qr)); (try (refine calCell' hb2 (w.heap.size + 1) 1 ?_ ?_ ?_; (focus (go_size; done)); (focus (omega; done)); intro qt; simp [go_sem, *] at qt)); (try (refine calFroz' hb2 (w.heap.size + 1) ?_ ?_ ?_; (focus (go_size; done)); (focus (omega; done)); intro xf; simp [go_sem, *] at xf)); (try (refine (fun (xj : w.heap.size + 1 < w2.heap.size) => ?_) ?_; rotate_left; (focus (omega; done)))); (try (refine calCell' hb2 (w.heap.size + 1 + 1) 0 ?_ ?_ ?_; (focus (go_size; done)); (focus (omega; done)); intro qu; simp [go_sem, *] at qu)); (try (refine calCell' hb2 (w.heap.size + 1 + 1) 1 ?_ ?_ ?_; (focus (go_size; done)); (focus (omega; done)); intro qw; simp [go_sem, *] at qw)); (try (refine calFroz' hb2 (w.heap.size + 1 + 1) ?_ ?_ ?_; (focus (go_size; done)); (focus (omega; done)); intro xg; simp [go_sem, *] at xg)); (try (refine (fun (xk : w.heap.size + 1 + 1 < w2.heap.size) => ?_) ?_; rotate_left; (focus (omega; done)))); (try (refine calCell' hb2 (w1.heap.size) 0 ?_ ?_ ?_; (focus (go_size; done)); (focus (omega; done)); intro ql; simp [go_sem, *] at ql)); (try (refine calCell' hb2 (w1.heap.size) 1 ?_ ?_ ?_; (focus (go_size; done)); (focus (omega; done)); intro qm; simp [go_sem, *] at qm)); (try (refine calFroz' hb2 (w1.heap.size) ?_ ?_ ?_; (focus (go_size; done)); (focus (omega; done)); intro qz; simp [go_sem, *] at qz)); (try (refine (fun (xh : w1.heap.size < w2.heap.size) => ?_) ?_; rotate_left; (focus (omega; done)))); have kp2 := calAt hb2; have fp2 := calFree hb2; have lp2 := Cal.lt hb2; (try clear kp1); (try clear fp1); (try clear qa qb qi); (try clear xa); (try clear qc qf qj); (try clear xb); (try clear qg qh qk); (try clear xc)))
 refine bodyPost_ret (v := _) (by simp [results, Tryz.results28, go_sem, *]) rfl ⟨rfl, ?_⟩
 (exact cal)
theorem cover_any {n1 d1 n2 d2 : Int} (v : Bool) (w : World) (p : Nat) (hp : w.heap[p]? = some (.cells #[.bool v] 54 (0, 0))) (h1 : frB n1 d1 = true) (h2 : frB n2 d2 = true) :
  Calls Tryz.prog 26 #[.pointer (some ⟨p, 0, none⟩), .agg #[.int .i64 n1, .int .i64 d1], .agg #[.int .i64 n2, .int .i64 d2]] w fun e w' =>
   e = .returned (.agg #[.int .i64 (stN v (quF n1 d1 n2 d2)), .int .i64 (stD v (quF n1 d1 n2 d2))]) ∧ Cal 54 w w' p (v && (quF n1 d1 n2 d2).2.2) := by
 have hl : p < w.heap.size := lt_of_block hp
 have HP := Lib.hid hp
 clear hp
 have tok1 := trivial
 have tok2 := trivial
 go_enter Tryz.func26, Tryz.ntmps26
 go_wp2_with (first | (have _t := tok1; go_at_call 59; refine (QuotientOf_any _ h1 h2).mono ?_; rintro e w1 ⟨rfl, hb1⟩; clear tok1 _t; have hz1 := hb1.size; (try simp only [sA, sB, sC, sD] at hz1); (try (obtain ⟨qa, qb, qi⟩ := cf2 hb1 (w.heap.size); simp [go_sem, *] at qa qb qi)); (try have xa : w.heap.size < w1.heap.size := by omega); (try (obtain ⟨qc, qf, qj⟩ := cf2 hb1 (w.heap.size + 1); simp [go_sem, *] at qc qf qj)); (try have xb : w.heap.size + 1 < w1.heap.size := by omega); (try (obtain ⟨qg, qh, qk⟩ := cf2 hb1 (w.heap.size + 1 + 1); simp [go_sem, *] at qg qh qk)); (try have xc : w.heap.size + 1 + 1 < w1.heap.size := by omega)) | (have _t := tok2; go_at_call 58; refine (keep_any _ _ _ v _ p (Cal.at_ (w := w) cal)).mono ?_; rintro e w2 ⟨rfl, hb2⟩; clear tok2 _t; have hz2 := hb2.size; (try simp only [sA, sB, sC, sD] at hz2); (try (refine calCell' hb2 (w.heap.size) 0 ?_ ?_ ?_; (focus (go_size; done)); (focus (omega; done)); intro qp; simp [go_sem, *] at qp)); (try (refine calCell' hb2 (w.heap.size) 1 ?_ ?_ ?_; (focus (go_size; done)); (focus (omega; done)); intro qq; simp [go_sem, *] at qq)); (try (refine calFroz' hb2 (w.heap.size) ?_ ?_ ?_; (focus (go_size; done)); (focus (omega; done)); intro xe; simp [go_sem, *] at xe)); (try (refine (fun (xi : w.heap.size < w2.heap.size) => ?_) ?_; rotate_left; (focus (omega; done)))); (try (refine calCell' hb2 (w.heap.size + 1) 0 ?_ ?_ ?_; (focus (go_size; done)); (focus (omega; done)); intro qr; simp [go_sem, *] at qr)); (try (refine calCell' hb2 (w.heap.size + 1) 1 ?_ ?_ ?_; (focus (go_size; done)); (focus (omega; done)); intro qt; simp [go_sem, *] at qt)); (try (refine calFroz' hb2 (w.heap.size + 1) ?_ ?_ ?_; (focus (go_size; done)); (focus (omega; done)); intro xf; simp [go_sem, *] at xf)); (try (refine (fun (xj : w.heap.size + 1 < w2.heap.size) => ?_) ?_; rotate_left; (focus (omega; done)))); (try (refine calCell' hb2 (w.heap.size + 1 + 1) 0 ?_ ?_ ?_; (focus (go_size; done)); (focus (omega; done)); intro qu; simp [go_sem, *] at qu)); (try (refine calCell' hb2 (w.heap.size + 1 + 1) 1 ?_ ?_ ?_; (focus (go_size; done)); (focus (omega; done)); intro qw; simp [go_sem, *] at qw)); (try (refine calFroz' hb2 (w.heap.size + 1 + 1) ?_ ?_ ?_; (focus (go_size; done)); (focus (omega; done)); intro xg; simp [go_sem, *] at xg)); (try (refine (fun (xk : w.heap.size + 1 + 1 < w2.heap.size) => ?_) ?_; rotate_left; (focus (omega; done)))); (try (refine calCell' hb2 (w1.heap.size) 0 ?_ ?_ ?_; (focus (go_size; done)); (focus (omega; done)); intro ql; simp [go_sem, *] at ql)); (try (refine calCell' hb2 (w1.heap.size) 1 ?_ ?_ ?_; (focus (go_size; done)); (focus (omega; done)); intro qm; simp [go_sem, *] at qm)); (try (refine calFroz' hb2 (w1.heap.size) ?_ ?_ ?_; (focus (go_size; done)); (focus (omega; done)); intro qz; simp [go_sem, *] at qz)); (try (refine (fun (xh : w1.heap.size < w2.heap.size) => ?_) ?_; rotate_left; (focus (omega; done)))); have kp2 := calAt hb2; have fp2 := calFree hb2; have lp2 := Cal.lt hb2; (try clear kp1); (try clear fp1); (try clear qa qb qi); (try clear xa); (try clear qc qf qj); (try clear xb); (try clear qg qh qk); (try clear xc)))
 refine bodyPost_ret (v := _) (by simp [results, Tryz.results26, go_sem, *]) rfl ⟨rfl, ?_⟩
 (exact cal)
theorem cwhole_any (a : Int) (v : Bool) (w : World) (p : Nat) (hp : w.heap[p]? = some (.cells #[.bool v] 54 (0, 0))) (h1 : -1000000000 ≤ a) (h2 : a ≤ 1000000000) :
  Calls Tryz.prog 29 #[.pointer (some ⟨p, 0, none⟩), .int .i64 a] w fun e w' =>
   e = .returned (.agg #[.int .i64 (stN v (mkF a 1)), .int .i64 (stD v (mkF a 1))]) ∧ Cal 54 w w' p (v && (mkF a 1).2.2) := by
 have hl : p < w.heap.size := lt_of_block hp
 have HP := Lib.hid hp
 clear hp
 have tok1 := trivial
 have tok2 := trivial
 go_enter Tryz.func29, Tryz.ntmps29
 go_wp2_with (first | (have _t := tok1; go_at_call 62; refine (makeFraction_any _ _ _ (by omega) (by omega) (by omega) (by omega) (by omega)).mono ?_; rintro e w1 ⟨rfl, hb1⟩; clear tok1 _t; have hz1 := hb1.size; (try simp only [sA, sB, sC, sD] at hz1); (try (obtain ⟨qa, qb, qc⟩ := cf2 hb1 (w.heap.size); simp [go_sem, *] at qa qb qc)); (try have qk : w.heap.size < w1.heap.size := by omega)) | (have _t := tok2; go_at_call 58; refine (keep_any _ _ _ v _ p (Cal.at_ (w := w) cal)).mono ?_; rintro e w2 ⟨rfl, hb2⟩; clear tok2 _t; have hz2 := hb2.size; (try simp only [sA, sB, sC, sD] at hz2); (try (refine calCell' hb2 (w.heap.size) 0 ?_ ?_ ?_; (focus (go_size; done)); (focus (omega; done)); intro qh; simp [go_sem, *] at qh)); (try (refine calCell' hb2 (w.heap.size) 1 ?_ ?_ ?_; (focus (go_size; done)); (focus (omega; done)); intro qi; simp [go_sem, *] at qi)); (try (refine calFroz' hb2 (w.heap.size) ?_ ?_ ?_; (focus (go_size; done)); (focus (omega; done)); intro ql; simp [go_sem, *] at ql)); (try (refine (fun (qp : w.heap.size < w2.heap.size) => ?_) ?_; rotate_left; (focus (omega; done)))); (try (refine calCell' hb2 (w1.heap.size) 0 ?_ ?_ ?_; (focus (go_size; done)); (focus (omega; done)); intro qf; simp [go_sem, *] at qf)); (try (refine calCell' hb2 (w1.heap.size) 1 ?_ ?_ ?_; (focus (go_size; done)); (focus (omega; done)); intro qg; simp [go_sem, *] at qg)); (try (refine calFroz' hb2 (w1.heap.size) ?_ ?_ ?_; (focus (go_size; done)); (focus (omega; done)); intro qj; simp [go_sem, *] at qj)); (try (refine (fun (qm : w1.heap.size < w2.heap.size) => ?_) ?_; rotate_left; (focus (omega; done)))); have kp2 := calAt hb2; have fp2 := calFree hb2; have lp2 := Cal.lt hb2; (try clear kp1); (try clear fp1); (try clear qa qb qc); (try clear qk)))
 refine bodyPost_ret (v := _) (by simp [results, Tryz.results29, go_sem, *]) rfl ⟨rfl, ?_⟩
 (exact cal)
end
end Go.Proofs.YtnemnkbcbokafaaGreat
