/- Lemmas and contracts of functions. No condition. -/
import Derived.Test.YtnkmgpmehkholaaGreatPq1
import Derived.Test.YtnkmgpmehkholaaGreatPq6
import Derived.Test.YtnkmgpmehkholaaGreatPq9
import Derived.Test.YtnkmgpmehkholaaGreatPq10
import Derived.Test.YtnkmgpmehkholaaGreatPq13
import Derived.Test.YtnkmgpmehkholaaGreatPq19
namespace Go.Proofs.YtnkmgpmehkholaaGreat
open Go.RowKit
set_option linter.unusedVariables false
set_option maxHeartbeats 2000000
set_option maxRecDepth 20000
set_option linter.unusedSimpArgs false
attribute [local go_sem] openAt openUpon
def dcV (A B : Int) : Int := (bl (most (dbM (absI A) (absI B)) (dbK (absI A) (absI B) (absI (coV A B)))) : Nat)
theorem db_bd {A B : Int} (hA : -1000 ≤ A ∧ A ≤ 1000) (hB : -10000 ≤ B ∧ B ≤ 10000) : 0 ≤ most (dbM (absI A) (absI B)) (dbK (absI A) (absI B) (absI (coV A B))) ∧ most (dbM (absI A) (absI B)) (dbK (absI A) (absI B) (absI (coV A B))) ≤ 10000000000000000 := by
 have hc := coV_bd hA hB
 have ha0 := absI_nonneg A
 have hb0 := absI_nonneg B
 have hd0 := absI_nonneg (coV A B)
 have ha1 := absI_le hA.1 hA.2
 have hb1 := absI_le hB.1 hB.2
 have hd1 := absI_le hc.1 hc.2
 generalize absI A = a at *
 generalize absI B = b at *
 generalize absI (coV A B) = d at *
 have qh : 0 ≤ (a * a) ∧ (a * a) ≤ 1000000 := by have := pB (x := a) (y := a) (X := 1000) (Y := 1000) (by omega) (by omega); omega
 have qi : 0 ≤ ((5 * a) * a) ∧ ((5 * a) * a) ≤ 5000000 := by have := pB (x := (5 * a)) (y := a) (X := 5000) (Y := 1000) (by omega) (by omega); omega
 have qj : 0 ≤ (((5 * a) * a) * b) ∧ (((5 * a) * a) * b) ≤ 50000000000 := by have := pB (x := ((5 * a) * a)) (y := b) (X := 5000000) (Y := 10000) (by omega) (by omega); omega
 have qk : 0 ≤ ((3 * a) * a) ∧ ((3 * a) * a) ≤ 3000000 := by have := pB (x := (3 * a)) (y := a) (X := 3000) (Y := 1000) (by omega) (by omega); omega
 have ql : 0 ≤ (((3 * a) * a) * a) ∧ (((3 * a) * a) * a) ≤ 3000000000 := by have := pB (x := ((3 * a) * a)) (y := a) (X := 3000000) (Y := 1000) (by omega) (by omega); omega
 have qm : 0 ≤ ((22 * b) * b) ∧ ((22 * b) * b) ≤ 2200000000 := by have := pB (x := (22 * b)) (y := b) (X := 220000) (Y := 10000) (by omega) (by omega); omega
 have qn : 0 ≤ ((4 * a) * ((((3 * a) * a) * a) + ((22 * b) * b))) ∧ ((4 * a) * ((((3 * a) * a) * a) + ((22 * b) * b))) ≤ 20800000000000 := by have := pB (x := (4 * a)) (y := ((((3 * a) * a) * a) + ((22 * b) * b))) (X := 4000) (Y := 5200000000) (by omega) (by omega); omega
 have qo : 0 ≤ (a * a) ∧ (a * a) ≤ 1000000 := by have := pB (x := a) (y := a) (X := 1000) (Y := 1000) (by omega) (by omega); omega
 have qq : 0 ≤ ((a * a) * a) ∧ ((a * a) * a) ≤ 1000000000 := by have := pB (x := (a * a)) (y := a) (X := 1000000) (Y := 1000) (by omega) (by omega); omega
 have qr : 0 ≤ ((8 * b) * b) ∧ ((8 * b) * b) ≤ 800000000 := by have := pB (x := (8 * b)) (y := b) (X := 80000) (Y := 10000) (by omega) (by omega); omega
 have qc : 0 ≤ ((12 * b) * (((a * a) * a) + ((8 * b) * b))) ∧ ((12 * b) * (((a * a) * a) + ((8 * b) * b))) ≤ 216000000000000 := by have := pB (x := (12 * b)) (y := (((a * a) * a) + ((8 * b) * b))) (X := 120000) (Y := 1800000000) (by omega) (by omega); omega
 have qt : 0 ≤ ((5 * a) * a) ∧ ((5 * a) * a) ≤ 5000000 := by have := pB (x := (5 * a)) (y := a) (X := 5000) (Y := 1000) (by omega) (by omega); omega
 have qu : 0 ≤ (((5 * a) * a) * a) ∧ (((5 * a) * a) * a) ≤ 5000000000 := by have := pB (x := ((5 * a) * a)) (y := a) (X := 5000000) (Y := 1000) (by omega) (by omega); omega
 have qv : 0 ≤ ((32 * b) * b) ∧ ((32 * b) * b) ≤ 3200000000 := by have := pB (x := (32 * b)) (y := b) (X := 320000) (Y := 10000) (by omega) (by omega); omega
 have qw : 0 ≤ (a * ((((5 * a) * a) * a) + ((32 * b) * b))) ∧ (a * ((((5 * a) * a) * a) + ((32 * b) * b))) ≤ 8200000000000 := by have := pB (x := a) (y := ((((5 * a) * a) * a) + ((32 * b) * b))) (X := 1000) (Y := 8200000000) (by omega) (by omega); omega
 have qx : 0 ≤ ((13 * a) * a) ∧ ((13 * a) * a) ≤ 13000000 := by have := pB (x := (13 * a)) (y := a) (X := 13000) (Y := 1000) (by omega) (by omega); omega
 have qy : 0 ≤ (((13 * a) * a) * a) ∧ (((13 * a) * a) * a) ≤ 13000000000 := by have := pB (x := ((13 * a) * a)) (y := a) (X := 13000000) (Y := 1000) (by omega) (by omega); omega
 have qz : 0 ≤ ((96 * b) * b) ∧ ((96 * b) * b) ≤ 9600000000 := by have := pB (x := (96 * b)) (y := b) (X := 960000) (Y := 10000) (by omega) (by omega); omega
 have xc : 0 ≤ ((2 * b) * ((((13 * a) * a) * a) + ((96 * b) * b))) ∧ ((2 * b) * ((((13 * a) * a) * a) + ((96 * b) * b))) ≤ 452000000000000 := by have := pB (x := (2 * b)) (y := ((((13 * a) * a) * a) + ((96 * b) * b))) (X := 20000) (Y := 22600000000) (by omega) (by omega); omega
 have xd : 0 ≤ ((3 * a) * a) ∧ ((3 * a) * a) ≤ 3000000 := by have := pB (x := (3 * a)) (y := a) (X := 3000) (Y := 1000) (by omega) (by omega); omega
 have qd : 0 ≤ (a * a) ∧ (a * a) ≤ 1000000 := by have := pB (x := a) (y := a) (X := 1000) (Y := 1000) (by omega) (by omega); omega
 have qe : 0 ≤ ((a * a) * a) ∧ ((a * a) * a) ≤ 1000000000 := by have := pB (x := (a * a)) (y := a) (X := 1000000) (Y := 1000) (by omega) (by omega); omega
 have qf : 0 ≤ ((8 * b) * b) ∧ ((8 * b) * b) ≤ 800000000 := by have := pB (x := (8 * b)) (y := b) (X := 80000) (Y := 10000) (by omega) (by omega); omega
 have qg : 0 ≤ (((3 * a) * a) * (((a * a) * a) + ((8 * b) * b))) ∧ (((3 * a) * a) * (((a * a) * a) + ((8 * b) * b))) ≤ 5400000000000000 := by have := pB (x := ((3 * a) * a)) (y := (((a * a) * a) + ((8 * b) * b))) (X := 3000000) (Y := 1800000000) (by omega) (by omega); omega
 unfold dbM dbK dbP dbQ
 refine most_bd (most_bd ⟨by omega, by omega⟩ ⟨by omega, by omega⟩) (most_bd ⟨by omega, by omega⟩ ⟨by omega, by omega⟩)
theorem dc_bd {A B : Int} (hA : -1000 ≤ A ∧ A ≤ 1000) (hB : -10000 ≤ B ∧ B ≤ 10000) : 0 ≤ dcV A B ∧ dcV A B ≤ 64 := by
 have h := db_bd hA hB
 have h2 : (2 : Int) ^ 64 = 18446744073709551616 := by decide
 unfold dcV
 generalize most (dbM (absI A) (absI B)) (dbK (absI A) (absI B) (absI (coV A B))) = x at *
 have := bl_le (n := x) (k := 64) (by omega)
 omega
theorem wx_len {W : World} {b : Bool} {a : Option Addr} {n c : Nat} {m : Int} (h : Wx W b a n c m) (h0 : 0 ≤ m) (h1 : m ≤ 10000000000000000) : n ≤ 10000 := by
 have h3 := h.row.len
 rw [ab_pos h0] at h3
 have h2 : (10000 : Int) ^ 5 = 100000000000000000000 := by decide
 have := (limbs_len (n := m) (k := 5)).2 (by omega)
 omega
theorem htConstant_any (A B : Int) (w : World) (hA : -1000 ≤ A ∧ A ≤ 1000) (hB : -10000 ≤ B ∧ B ≤ 10000) : Calls Tryz.prog 85 #[.agg #[.int .i64 A, .int .i64 B]] w fun e w' => e = .returned (.int .i64 (dcV A B)) ∧ Below w.heap.size w w' := by
 have hb := db_bd hA hB
 have T1 := fun W : World => Lib.hid (htDoubling_any A B W hA hB)
 have T2 := fun W : World => bgOf_any (most (dbM (absI A) (absI B)) (dbK (absI A) (absI B) (absI (coV A B)))) W (by omega) (by omega)
 have HV := Lib.hid (show dcV A B = ((bl (ab (most (dbM (absI A) (absI B)) (dbK (absI A) (absI B) (absI (coV A B))))) : Nat) : Int) by rw [ab_pos hb.1]; rfl)
 generalize dbM (absI A) (absI B) = x at *
 generalize dbK (absI A) (absI B) (absI (coV A B)) = y at *
 have tok1 := trivial
 have tok2 := trivial
 have tok3 := trivial
 go_enter Tryz.func85, Tryz.ntmps85
 go_wp2_with (first | (have _t := tok1; go_at_call 101; (with_reducible refine ((T1 _).out).mono ?_); rintro e w1 ⟨rfl, hb1⟩; clear tok1 _t; have hz1 := hb1.size; (try simp only [sA, sB, sC, sD] at hz1); (try (obtain ⟨kq, qe⟩ := cfAt hb1 (w.heap.size); have qc := kq 0; have qd := kq 1; clear kq; simp [go_sem, *] at qc qd qe)); (try have qh : w.heap.size < w1.heap.size := by omega)) | (go_at_call 69; refine (l1Most_any _ _ _).mono ?_; rintro e w' ⟨rfl, rfl⟩) | (have _t := tok2; go_at_call 102; (with_reducible refine ((T2 _)).mono ?_); rintro e w2 ⟨b2, a2, n2, c2, rfl, hv2, hf2, hb2⟩; clear tok2 _t; have hz2 := hb2.size; (try simp only [sA, sB, sC, sD] at hz2); (try (obtain ⟨kq, qi⟩ := cfAt hb2 (w.heap.size); have qf := kq 0; have qg := kq 1; clear kq; simp [go_sem, *] at qf qg qi)); (try have ql : w.heap.size < w2.heap.size := by omega); (try clear qc qd qe); (try clear qh)) | (have _t := tok3; go_at_call 100; refine ((bgBits_any _ _ _ _ _ _ hv2 (wx_len hv2 hb.1 hb.2))).mono ?_; rintro e w3 ⟨rfl, hb3⟩; clear tok3 _t; have hz3 := hb3.size; (try simp only [sA, sB, sC, sD] at hz3); (try (obtain ⟨kq, qm⟩ := cfAt hb3 (w.heap.size); have qj := kq 0; have qk := kq 1; clear kq; simp [go_sem, *] at qj qk qm)); (try have qn : w.heap.size < w3.heap.size := by omega); (try clear qc qd qe); (try clear qh); (try clear qf qg qi); (try clear ql)))
 go_ret
 refine ⟨by rw [HV.out]; rfl, ?_⟩
 exact bel
theorem doublingConstant_any (A B : Int) (w : World) (hA : -1000 ≤ A ∧ A ≤ 1000) (hB : -10000 ≤ B ∧ B ≤ 10000) : Calls Tryz.prog 93 #[.agg #[.int .i64 A, .int .i64 B]] w fun e w' => e = .returned (.int .i64 (dcV A B)) ∧ Below w.heap.size w w' := by
 have hb := db_bd hA hB
 have T1 := fun W : World => Lib.hid (doublingBounds_any A B W hA hB)
 have hmx := max_most
 have T2 := fun W : World => Lib.hid (len_any (most (dbM (absI A) (absI B)) (dbK (absI A) (absI B) (absI (coV A B)))) W (by omega) (by omega))
 rw [bl_lib (by omega)] at T2
 have HV := Lib.hid (show dcV A B = ((bl (most (dbM (absI A) (absI B)) (dbK (absI A) (absI B) (absI (coV A B)))) : Nat) : Int) from rfl)
 generalize dbM (absI A) (absI B) = x at *
 generalize dbK (absI A) (absI B) (absI (coV A B)) = y at *
 generalize ((bl (most x y) : Nat) : Int) = v at *
 obtain ⟨hb0, hbm⟩ := hb
 have tok1 := trivial
 go_enter Tryz.func93, Tryz.ntmps93
 go_wp2_with (first | (have _t := tok1; go_at_call 107; (with_reducible refine ((T1 _).out).mono ?_); rintro e w1 ⟨rfl, hb1⟩; clear tok1 _t; have hz1 := hb1.size; (try simp only [sA, sB, sC, sD] at hz1); (try (obtain ⟨kq, qe⟩ := cfAt hb1 (w.heap.size); have qc := kq 0; have qd := kq 1; clear kq; simp [go_sem, *] at qc qd qe)); (try have qf : w.heap.size < w1.heap.size := by omega)) | (go_at_call 108; (with_reducible refine ((T2 _).out).mono ?_); rintro e w' ⟨rfl, rfl⟩))
 go_ret
 refine ⟨by rw [HV.out]; rfl, ?_⟩
 exact bel
theorem chPower_any (k : Int) (w : World) (hk : 0 ≤ k) (hk2 : k ≤ 5) :
  Calls Tryz.prog 86 #[.int .i64 k] w fun e w' => e = .returned (.int .i64 (4 ^ k.toNat * 3)) ∧ w = w' := by
 have HM : (4 : Int) ^ k.toNat ≤ 1000000000000000 := by
  have := pow_mono' (p := 4) (by omega) (m := k.toNat) (n := 5) (by omega)
  have h5 : (4 : Int) ^ 5 = 1024 := by decide
  omega
 have HM := Lib.hid HM
 go_enter Tryz.func86, Tryz.ntmps86
 go_wp2
 go_loop [0, 3] (fun i o => ∃ j : Nat, (j : Int) ≤ k ∧ i = .int .i64 (k - j) ∧ o = .int .i64 ((4 : Int) ^ j * 3)) (fun i _ => (intOf i).toNat)
 case atStart => exact ⟨0, by omega, by simp, by simp⟩
 case round =>
  obtain ⟨j, hj, rfl, rfl⟩ := hrel
  by_cases hlt : (j : Int) < k
  ·have hs := pow_step (a := 4) (by omega) hlt HM.out
   have HE := Lib.hid (show (4 : Int) ^ j * 3 * 4 = 4 ^ (j + 1) * 3 by rw [← hs.2.2.1]; omega)
   have hs1 := hs.1
   have hs2 := hs.2.1
   clear hs
   generalize hq : (4 : Int) ^ j * 3 = q at *
   have hq1 : q ≤ 3000000000000000 := by omega
   have hq0 : 0 ≤ q := by omega
   clear hq hs1 hs2
   go_wp2
   go_round
   case rel => exact ⟨j + 1, by omega, by go_num, by rw [HE.out]⟩
   case measure => simp [intOf]; omega
  ·have : (j : Int) = k := by omega
   subst this
   go_wp2
   go_ret
   exact ⟨by simp, rfl⟩
theorem four_bd {k : Int} (h0 : 0 ≤ k) (h1 : k ≤ 5) : 1 ≤ (4 : Int) ^ k.toNat ∧ (4 : Int) ^ k.toNat ≤ 1024 := by
 have := pow_mono' (p := 4) (by omega) (m := k.toNat) (n := 5) (by omega)
 have h5 : (4 : Int) ^ 5 = 1024 := by decide
 have := pow_pos' (p := 4) (by omega) k.toNat
 omega
end Go.Proofs.YtnkmgpmehkholaaGreat
