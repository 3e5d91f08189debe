/- Widths of heights: both sides, and the walk of the law. -/
import Derived.Test.YtfbegjiebahdcaaEc2
import Derived.Test.YtfbegjiebahdcaaBg5
import Derived.Test.YtfbegjiebahdcaaLen
import Derived.Test.YtfbegjiebahdcaaLo
import Derived.Test.YtfbegjiebahdcaaFrac
import Derived.Test.YtfbegjiebahdcaaToL
namespace Go.Proofs.Ytfbegjiebahdcaa
open Go.RowKit
set_option linter.unusedVariables false
set_option maxHeartbeats 2000000
set_option maxRecDepth 20000
set_option linter.unusedSimpArgs false
attribute [local go_sem] openAt openUpon
def dcV (A B : Int) : Int := (bl (most (dbM (absI A) (absI B)) (dbK (absI A) (absI B) (absI (coV A B)))) : Nat)
theorem db_bd {A B : Int} (hA : -1000 ≤ A ∧ A ≤ 1000) (hB : -10000 ≤ B ∧ B ≤ 10000) : 0 ≤ most (dbM (absI A) (absI B)) (dbK (absI A) (absI B) (absI (coV A B))) ∧ most (dbM (absI A) (absI B)) (dbK (absI A) (absI B) (absI (coV A B))) ≤ 10000000000000000 := by
  have hc := coV_bd hA hB
  have ha0 := absI_nonneg A
  have hb0 := absI_nonneg B
  have hd0 := absI_nonneg (coV A B)
  have ha1 := absI_le hA.1 hA.2
  have hb1 := absI_le hB.1 hB.2
  have hd1 := absI_le hc.1 hc.2
  generalize absI A = a at *
  generalize absI B = b at *
  generalize absI (coV A B) = d at *
  have hm2_1 : 0 ≤ (a * a) ∧ (a * a) ≤ 1000000 := by have := pB (x := a) (y := a) (X := 1000) (Y := 1000) (by omega) (by omega); omega
  have hm4_1 : 0 ≤ ((5 * a) * a) ∧ ((5 * a) * a) ≤ 5000000 := by have := pB (x := (5 * a)) (y := a) (X := 5000) (Y := 1000) (by omega) (by omega); omega
  have hm4_2 : 0 ≤ (((5 * a) * a) * b) ∧ (((5 * a) * a) * b) ≤ 50000000000 := by have := pB (x := ((5 * a) * a)) (y := b) (X := 5000000) (Y := 10000) (by omega) (by omega); omega
  have hm4_3 : 0 ≤ ((3 * a) * a) ∧ ((3 * a) * a) ≤ 3000000 := by have := pB (x := (3 * a)) (y := a) (X := 3000) (Y := 1000) (by omega) (by omega); omega
  have hm4_4 : 0 ≤ (((3 * a) * a) * a) ∧ (((3 * a) * a) * a) ≤ 3000000000 := by have := pB (x := ((3 * a) * a)) (y := a) (X := 3000000) (Y := 1000) (by omega) (by omega); omega
  have hm4_5 : 0 ≤ ((22 * b) * b) ∧ ((22 * b) * b) ≤ 2200000000 := by have := pB (x := (22 * b)) (y := b) (X := 220000) (Y := 10000) (by omega) (by omega); omega
  have hm4_6 : 0 ≤ ((4 * a) * ((((3 * a) * a) * a) + ((22 * b) * b))) ∧ ((4 * a) * ((((3 * a) * a) * a) + ((22 * b) * b))) ≤ 20800000000000 := by have := pB (x := (4 * a)) (y := ((((3 * a) * a) * a) + ((22 * b) * b))) (X := 4000) (Y := 5200000000) (by omega) (by omega); omega
  have hm4_7 : 0 ≤ (a * a) ∧ (a * a) ≤ 1000000 := by have := pB (x := a) (y := a) (X := 1000) (Y := 1000) (by omega) (by omega); omega
  have hm4_8 : 0 ≤ ((a * a) * a) ∧ ((a * a) * a) ≤ 1000000000 := by have := pB (x := (a * a)) (y := a) (X := 1000000) (Y := 1000) (by omega) (by omega); omega
  have hm4_9 : 0 ≤ ((8 * b) * b) ∧ ((8 * b) * b) ≤ 800000000 := by have := pB (x := (8 * b)) (y := b) (X := 80000) (Y := 10000) (by omega) (by omega); omega
  have hm4_10 : 0 ≤ ((12 * b) * (((a * a) * a) + ((8 * b) * b))) ∧ ((12 * b) * (((a * a) * a) + ((8 * b) * b))) ≤ 216000000000000 := by have := pB (x := (12 * b)) (y := (((a * a) * a) + ((8 * b) * b))) (X := 120000) (Y := 1800000000) (by omega) (by omega); omega
  have hm5_1 : 0 ≤ ((5 * a) * a) ∧ ((5 * a) * a) ≤ 5000000 := by have := pB (x := (5 * a)) (y := a) (X := 5000) (Y := 1000) (by omega) (by omega); omega
  have hm5_2 : 0 ≤ (((5 * a) * a) * a) ∧ (((5 * a) * a) * a) ≤ 5000000000 := by have := pB (x := ((5 * a) * a)) (y := a) (X := 5000000) (Y := 1000) (by omega) (by omega); omega
  have hm5_3 : 0 ≤ ((32 * b) * b) ∧ ((32 * b) * b) ≤ 3200000000 := by have := pB (x := (32 * b)) (y := b) (X := 320000) (Y := 10000) (by omega) (by omega); omega
  have hm5_4 : 0 ≤ (a * ((((5 * a) * a) * a) + ((32 * b) * b))) ∧ (a * ((((5 * a) * a) * a) + ((32 * b) * b))) ≤ 8200000000000 := by have := pB (x := a) (y := ((((5 * a) * a) * a) + ((32 * b) * b))) (X := 1000) (Y := 8200000000) (by omega) (by omega); omega
  have hm5_5 : 0 ≤ ((13 * a) * a) ∧ ((13 * a) * a) ≤ 13000000 := by have := pB (x := (13 * a)) (y := a) (X := 13000) (Y := 1000) (by omega) (by omega); omega
  have hm5_6 : 0 ≤ (((13 * a) * a) * a) ∧ (((13 * a) * a) * a) ≤ 13000000000 := by have := pB (x := ((13 * a) * a)) (y := a) (X := 13000000) (Y := 1000) (by omega) (by omega); omega
  have hm5_7 : 0 ≤ ((96 * b) * b) ∧ ((96 * b) * b) ≤ 9600000000 := by have := pB (x := (96 * b)) (y := b) (X := 960000) (Y := 10000) (by omega) (by omega); omega
  have hm5_8 : 0 ≤ ((2 * b) * ((((13 * a) * a) * a) + ((96 * b) * b))) ∧ ((2 * b) * ((((13 * a) * a) * a) + ((96 * b) * b))) ≤ 452000000000000 := by have := pB (x := (2 * b)) (y := ((((13 * a) * a) * a) + ((96 * b) * b))) (X := 20000) (Y := 22600000000) (by omega) (by omega); omega
  have hm5_9 : 0 ≤ ((3 * a) * a) ∧ ((3 * a) * a) ≤ 3000000 := by have := pB (x := (3 * a)) (y := a) (X := 3000) (Y := 1000) (by omega) (by omega); omega
  have hm5_10 : 0 ≤ (a * a) ∧ (a * a) ≤ 1000000 := by have := pB (x := a) (y := a) (X := 1000) (Y := 1000) (by omega) (by omega); omega
  have hm5_11 : 0 ≤ ((a * a) * a) ∧ ((a * a) * a) ≤ 1000000000 := by have := pB (x := (a * a)) (y := a) (X := 1000000) (Y := 1000) (by omega) (by omega); omega
  have hm5_12 : 0 ≤ ((8 * b) * b) ∧ ((8 * b) * b) ≤ 800000000 := by have := pB (x := (8 * b)) (y := b) (X := 80000) (Y := 10000) (by omega) (by omega); omega
  have hm5_13 : 0 ≤ (((3 * a) * a) * (((a * a) * a) + ((8 * b) * b))) ∧ (((3 * a) * a) * (((a * a) * a) + ((8 * b) * b))) ≤ 5400000000000000 := by have := pB (x := ((3 * a) * a)) (y := (((a * a) * a) + ((8 * b) * b))) (X := 3000000) (Y := 1800000000) (by omega) (by omega); omega
  unfold dbM dbK dbP dbQ
  refine most_bd (most_bd ⟨by omega, by omega⟩ ⟨by omega, by omega⟩) (most_bd ⟨by omega, by omega⟩ ⟨by omega, by omega⟩)
theorem dc_bd {A B : Int} (hA : -1000 ≤ A ∧ A ≤ 1000) (hB : -10000 ≤ B ∧ B ≤ 10000) : 0 ≤ dcV A B ∧ dcV A B ≤ 64 := by
  have h := db_bd hA hB
  have h2 : (2 : Int) ^ 64 = 18446744073709551616 := by decide
  unfold dcV
  generalize most (dbM (absI A) (absI B)) (dbK (absI A) (absI B) (absI (coV A B))) = x at *
  have := bl_le (n := x) (k := 64) (by omega)
  omega
theorem wx_len {W : World} {b : Bool} {a : Option Addr} {n c : Nat} {m : Int} (h : Wx W b a n c m) (h0 : 0 ≤ m) (h1 : m ≤ 10000000000000000) : n ≤ 10000 := by
  have h3 := h.row.len
  rw [ab_pos h0] at h3
  have h2 : (10000 : Int) ^ 5 = 100000000000000000000 := by decide
  have := (limbs_len (n := m) (k := 5)).2 (by omega)
  omega
theorem htConstant_any (A B : Int) (w : World) (hA : -1000 ≤ A ∧ A ≤ 1000) (hB : -10000 ≤ B ∧ B ≤ 10000) : Calls Try.prog 56 #[.agg #[.int .i64 A, .int .i64 B]] w fun e w' => e = .returned (.int .i64 (dcV A B)) ∧ Below w.heap.size w w' := by
  have hb := db_bd hA hB
  have T1 := fun W : World => Lib.hid (htDoubling_any A B W hA hB)
  have T2 := fun W : World => bgOf_any (most (dbM (absI A) (absI B)) (dbK (absI A) (absI B) (absI (coV A B)))) W (by omega) (by omega)
  have HV := Lib.hid (show dcV A B = ((bl (ab (most (dbM (absI A) (absI B)) (dbK (absI A) (absI B) (absI (coV A B))))) : Nat) : Int) by rw [ab_pos hb.1]; rfl)
  generalize dbM (absI A) (absI B) = x at *
  generalize dbK (absI A) (absI B) (absI (coV A B)) = y at *
  have tok1 : True := trivial
  have tok2 : True := trivial
  have tok3 : True := trivial
  go_enter Try.func56, Try.ntmps56
  go_wp2_with (first | (have _t := tok1; go_at_call 92; (with_reducible refine ((T1 _).out).mono ?_); rintro e w1 ⟨rfl, hb1⟩; clear tok1 _t; have hz1 := hb1.size; (try simp only [World.size_alloc, World.size_setCell, World.size_drew, World.size_drewN'] at hz1); (try (have k1_w_0_0 := cellAt hb1 (w.heap.size) (by go_size) 0; simp [go_sem, *] at k1_w_0_0)); (try (have k1_w_0_1 := cellAt hb1 (w.heap.size) (by go_size) 1; simp [go_sem, *] at k1_w_0_1)); (try (have f1_w_0 := frozAt hb1 (w.heap.size) (by go_size); simp [go_sem, *] at f1_w_0)); (try have l1_w_0 : w.heap.size < w1.heap.size := by omega)) | (go_at_call 95; refine (l1Most_any _ _ _).mono ?_; rintro e w' ⟨rfl, rfl⟩) | (have _t := tok2; go_at_call 94; (with_reducible refine ((T2 _)).mono ?_); rintro e w2 ⟨b2, a2, n2, c2, rfl, hv2, hf2, hb2⟩; clear tok2 _t; have hz2 := hb2.size; (try simp only [World.size_alloc, World.size_setCell, World.size_drew, World.size_drewN'] at hz2); (try (have k2_w_0_0 := cellAt hb2 (w.heap.size) (by go_size) 0; simp [go_sem, *] at k2_w_0_0)); (try (have k2_w_0_1 := cellAt hb2 (w.heap.size) (by go_size) 1; simp [go_sem, *] at k2_w_0_1)); (try (have f2_w_0 := frozAt hb2 (w.heap.size) (by go_size); simp [go_sem, *] at f2_w_0)); (try have l2_w_0 : w.heap.size < w2.heap.size := by omega); (try clear k1_w_0_0); (try clear k1_w_0_1); (try clear f1_w_0); (try clear l1_w_0)) | (have _t := tok3; go_at_call 93; refine ((bgBits_any _ _ _ _ _ _ hv2 (wx_len hv2 hb.1 hb.2))).mono ?_; rintro e w3 ⟨rfl, hb3⟩; clear tok3 _t; have hz3 := hb3.size; (try simp only [World.size_alloc, World.size_setCell, World.size_drew, World.size_drewN'] at hz3); (try (have k3_w_0_0 := cellAt hb3 (w.heap.size) (by go_size) 0; simp [go_sem, *] at k3_w_0_0)); (try (have k3_w_0_1 := cellAt hb3 (w.heap.size) (by go_size) 1; simp [go_sem, *] at k3_w_0_1)); (try (have f3_w_0 := frozAt hb3 (w.heap.size) (by go_size); simp [go_sem, *] at f3_w_0)); (try have l3_w_0 : w.heap.size < w3.heap.size := by omega); (try clear k1_w_0_0); (try clear k1_w_0_1); (try clear f1_w_0); (try clear l1_w_0); (try clear k2_w_0_0); (try clear k2_w_0_1); (try clear f2_w_0); (try clear l2_w_0)))
  go_ret
  refine ⟨by rw [HV.out]; rfl, ?_⟩
  repeat' first | (with_reducible exact Below.refl _ _) | (with_reducible assumption) | (with_reducible refine below_drewN ?_ _) | (with_reducible refine Below.drew ?_) | (with_reducible refine Below.alloc ?_ ?_ _) | (with_reducible refine Below.setCell ?_ ?_ _) | (with_reducible refine below_via (by assumption) ?_ ?_) | go_size
theorem doublingConstant_any (A B : Int) (w : World) (hA : -1000 ≤ A ∧ A ≤ 1000) (hB : -10000 ≤ B ∧ B ≤ 10000) : Calls Try.prog 61 #[.agg #[.int .i64 A, .int .i64 B]] w fun e w' => e = .returned (.int .i64 (dcV A B)) ∧ Below w.heap.size w w' := by
  have hb := db_bd hA hB
  have T1 := fun W : World => Lib.hid (doublingBounds_any A B W hA hB)
  have hmx := max_most
  have T2 := fun W : World => Lib.hid (len_any (most (dbM (absI A) (absI B)) (dbK (absI A) (absI B) (absI (coV A B)))) W (by omega) (by omega))
  rw [bl_lib (by omega)] at T2
  have HV := Lib.hid (show dcV A B = ((bl (most (dbM (absI A) (absI B)) (dbK (absI A) (absI B) (absI (coV A B)))) : Nat) : Int) from rfl)
  generalize dbM (absI A) (absI B) = x at *
  generalize dbK (absI A) (absI B) (absI (coV A B)) = y at *
  generalize ((bl (most x y) : Nat) : Int) = v at *
  obtain ⟨hb0, hbm⟩ := hb
  have tok1 : True := trivial
  go_enter Try.func61, Try.ntmps61
  go_wp2_with (first | (have _t := tok1; go_at_call 99; (with_reducible refine ((T1 _).out).mono ?_); rintro e w1 ⟨rfl, hb1⟩; clear tok1 _t; have hz1 := hb1.size; (try simp only [World.size_alloc, World.size_setCell, World.size_drew, World.size_drewN'] at hz1); (try (have k1_w_0_0 := cellAt hb1 (w.heap.size) (by go_size) 0; simp [go_sem, *] at k1_w_0_0)); (try (have k1_w_0_1 := cellAt hb1 (w.heap.size) (by go_size) 1; simp [go_sem, *] at k1_w_0_1)); (try (have f1_w_0 := frozAt hb1 (w.heap.size) (by go_size); simp [go_sem, *] at f1_w_0)); (try have l1_w_0 : w.heap.size < w1.heap.size := by omega)) | (go_at_call 100; (with_reducible refine ((T2 _).out).mono ?_); rintro e w' ⟨rfl, rfl⟩))
  go_ret
  refine ⟨by rw [HV.out]; rfl, ?_⟩
  repeat' first | (with_reducible exact Below.refl _ _) | (with_reducible assumption) | (with_reducible refine below_drewN ?_ _) | (with_reducible refine Below.drew ?_) | (with_reducible refine Below.alloc ?_ ?_ _) | (with_reducible refine Below.setCell ?_ ?_ _) | (with_reducible refine below_via (by assumption) ?_ ?_) | go_size
theorem chPower_any (k : Int) (w : World) (hk : 0 ≤ k) (hk2 : k ≤ 5) :
    Calls Try.prog 57 #[.int .i64 k] w fun e w' => e = .returned (.int .i64 (4 ^ k.toNat * 3)) ∧ w = w' := by
  have HM : (4 : Int) ^ k.toNat ≤ 1000000000000000 := by
    have := pow_mono' (p := 4) (by omega) (m := k.toNat) (n := 5) (by omega)
    have h5 : (4 : Int) ^ 5 = 1024 := by decide
    omega
  have HM := Lib.hid HM
  go_enter Try.func57, Try.ntmps57
  go_wp2
  go_loop [0, 3] (fun i o => ∃ j : Nat, (j : Int) ≤ k ∧ i = .int .i64 (k - j) ∧ o = .int .i64 ((4 : Int) ^ j * 3)) (fun i _ => (intOf i).toNat)
  case atStart => exact ⟨0, by omega, by simp, by simp⟩
  case round =>
    obtain ⟨j, hj, rfl, rfl⟩ := hrel
    by_cases hlt : (j : Int) < k
    · have hs := pow_step (a := 4) (by omega) hlt HM.out
      have HE := Lib.hid (show (4 : Int) ^ j * 3 * 4 = 4 ^ (j + 1) * 3 by rw [← hs.2.2.1]; omega)
      have hs1 := hs.1
      have hs2 := hs.2.1
      clear hs
      generalize hq : (4 : Int) ^ j * 3 = q at *
      have hq1 : q ≤ 3000000000000000 := by omega
      have hq0 : 0 ≤ q := by omega
      clear hq hs1 hs2
      go_wp2
      go_round
      case rel => exact ⟨j + 1, by omega, by go_num, by rw [HE.out]⟩
      case measure => simp [intOf]; omega
    · have : (j : Int) = k := by omega
      subst this
      go_wp2
      go_ret
      exact ⟨by simp, rfl⟩
def hwB (A B k : Int) : Bool := cvB A B && inB k 0 5
def hwV (A B k : Int) : Int × Int × Bool := if hwB A B k = true then mkF (3 + 2 * dcV A B) (4 ^ k.toNat * 3) else (0, 0, false)
theorem hwB_cases (A B k : Int) : (cvB A B = false ∧ hwV A B k = (0, 0, false)) ∨ (cvB A B = true ∧ ((inB k 0 5 = false ∧ hwV A B k = (0, 0, false)) ∨ (inB k 0 5 = true ∧ hwV A B k = mkF (3 + 2 * dcV A B) (4 ^ k.toNat * 3)))) := by
  cases h1 : cvB A B
  · left; simp [hwB, hwV, h1]
  · right; refine ⟨rfl, ?_⟩
    cases h2 : inB k 0 5
    · left; simp [hwB, hwV, h1, h2]
    · right; simp [hwB, hwV, h1, h2]
theorem four_bd {k : Int} (h0 : 0 ≤ k) (h1 : k ≤ 5) : 1 ≤ (4 : Int) ^ k.toNat ∧ (4 : Int) ^ k.toNat ≤ 1024 := by
  have := pow_mono' (p := 4) (by omega) (m := k.toNat) (n := 5) (by omega)
  have h5 : (4 : Int) ^ 5 = 1024 := by decide
  have := pow_pos' (p := 4) (by omega) k.toNat
  omega
theorem sHeightWidth_any (A B k : Int) (w : World) : Calls Try.prog 14 #[.agg #[.int .i64 A, .int .i64 B], .int .i64 k] w fun e w' =>
    e = .returned (.tuple #[.agg #[.int .i64 (hwV A B k).1, .int .i64 (hwV A B k).2.1], .bool (hwV A B k).2.2]) ∧ Below w.heap.size w w' := by
  have T1 := fun W : World => Lib.hid (ecGood_any A B W)
  have T2 := fun W : World => Lib.hid (l1In_any k 0 5 W)
  rcases hwB_cases A B k with ⟨h1, e⟩ | ⟨h1, ⟨h2, e⟩ | ⟨h2, e⟩⟩
  · rw [e]
    have T3 := T1; have T4 := T1; have T5 := T1
    rw [h1] at T1
    clear h1 e
    have tok1 : True := trivial
    have tok2 : True := trivial
    have tok3 : True := trivial
    go_enter Try.func14, Try.ntmps14
    go_wp2_with (first | (have _t := tok1; go_at_call 53; (with_reducible refine ((T1 _).out).mono ?_); rintro e w1 ⟨rfl, hb1⟩; clear tok1 _t; have hz1 := hb1.size; (try simp only [World.size_alloc, World.size_setCell, World.size_drew, World.size_drewN'] at hz1); (try (have k1_w_0_0 := cellAt hb1 (w.heap.size) (by go_size) 0; simp [go_sem, *] at k1_w_0_0)); (try (have k1_w_0_1 := cellAt hb1 (w.heap.size) (by go_size) 1; simp [go_sem, *] at k1_w_0_1)); (try (have f1_w_0 := frozAt hb1 (w.heap.size) (by go_size); simp [go_sem, *] at f1_w_0)); (try have l1_w_0 : w.heap.size < w1.heap.size := by omega); (try (have k1_w_1_0 := cellAt hb1 (w.heap.size + 1) (by go_size) 0; simp [go_sem, *] at k1_w_1_0)); (try (have k1_w_1_1 := cellAt hb1 (w.heap.size + 1) (by go_size) 1; simp [go_sem, *] at k1_w_1_1)); (try (have f1_w_1 := frozAt hb1 (w.heap.size + 1) (by go_size); simp [go_sem, *] at f1_w_1)); (try have l1_w_1 : w.heap.size + 1 < w1.heap.size := by omega)) | (go_at_call 54; (with_reducible refine ((T2 _).out).mono ?_); rintro e w' ⟨rfl, rfl⟩) | (have _t := tok2; go_at_call 56; (with_reducible refine ((T3 _).out).mono ?_); rintro e w2 ⟨rfl, hb2⟩; clear tok2 _t; have hz2 := hb2.size; (try simp only [World.size_alloc, World.size_setCell, World.size_drew, World.size_drewN'] at hz2); (try (have k2_w_0_0 := cellAt hb2 (w.heap.size) (by go_size) 0; simp [go_sem, *] at k2_w_0_0)); (try (have k2_w_0_1 := cellAt hb2 (w.heap.size) (by go_size) 1; simp [go_sem, *] at k2_w_0_1)); (try (have f2_w_0 := frozAt hb2 (w.heap.size) (by go_size); simp [go_sem, *] at f2_w_0)); (try have l2_w_0 : w.heap.size < w2.heap.size := by omega); (try (have k2_w_1_0 := cellAt hb2 (w.heap.size + 1) (by go_size) 0; simp [go_sem, *] at k2_w_1_0)); (try (have k2_w_1_1 := cellAt hb2 (w.heap.size + 1) (by go_size) 1; simp [go_sem, *] at k2_w_1_1)); (try (have f2_w_1 := frozAt hb2 (w.heap.size + 1) (by go_size); simp [go_sem, *] at f2_w_1)); (try have l2_w_1 : w.heap.size + 1 < w2.heap.size := by omega); (try clear k1_w_0_0); (try clear k1_w_0_1); (try clear f1_w_0); (try clear l1_w_0); (try clear k1_w_1_0); (try clear k1_w_1_1); (try clear f1_w_1); (try clear l1_w_1)) | (go_at_call 57; (with_reducible refine ((T4 _).out).mono ?_); rintro e w' ⟨rfl, rfl⟩) | (have _t := tok3; go_at_call 55; (with_reducible refine ((T5 _).out).mono ?_); rintro e w3 ⟨rfl, hb3⟩; clear tok3 _t; have hz3 := hb3.size; (try simp only [World.size_alloc, World.size_setCell, World.size_drew, World.size_drewN'] at hz3); (try (have k3_w_0_0 := cellAt hb3 (w.heap.size) (by go_size) 0; simp [go_sem, *] at k3_w_0_0)); (try (have k3_w_0_1 := cellAt hb3 (w.heap.size) (by go_size) 1; simp [go_sem, *] at k3_w_0_1)); (try (have f3_w_0 := frozAt hb3 (w.heap.size) (by go_size); simp [go_sem, *] at f3_w_0)); (try have l3_w_0 : w.heap.size < w3.heap.size := by omega); (try (have k3_w_1_0 := cellAt hb3 (w.heap.size + 1) (by go_size) 0; simp [go_sem, *] at k3_w_1_0)); (try (have k3_w_1_1 := cellAt hb3 (w.heap.size + 1) (by go_size) 1; simp [go_sem, *] at k3_w_1_1)); (try (have f3_w_1 := frozAt hb3 (w.heap.size + 1) (by go_size); simp [go_sem, *] at f3_w_1)); (try have l3_w_1 : w.heap.size + 1 < w3.heap.size := by omega); (try clear k1_w_0_0); (try clear k1_w_0_1); (try clear f1_w_0); (try clear l1_w_0); (try clear k1_w_1_0); (try clear k1_w_1_1); (try clear f1_w_1); (try clear l1_w_1); (try clear k2_w_0_0); (try clear k2_w_0_1); (try clear f2_w_0); (try clear l2_w_0); (try clear k2_w_1_0); (try clear k2_w_1_1); (try clear f2_w_1); (try clear l2_w_1)))
    refine bodyPost_ret (v := _) (by simp [results, Try.results14, go_sem, *]) rfl ⟨rfl, ?_⟩
    repeat' first | (with_reducible exact Below.refl _ _) | (with_reducible assumption) | (with_reducible refine below_drewN ?_ _) | (with_reducible refine Below.drew ?_) | (with_reducible refine Below.alloc ?_ ?_ _) | (with_reducible refine Below.setCell ?_ ?_ _) | (with_reducible refine below_via (by assumption) ?_ ?_) | go_size
  · rw [e]
    have T3 := T1; have T4 := T1; have T5 := T1
    rw [h1] at T1
    rw [h2] at T2
    clear h1 h2 e
    have tok1 : True := trivial
    have tok2 : True := trivial
    have tok3 : True := trivial
    go_enter Try.func14, Try.ntmps14
    go_wp2_with (first | (have _t := tok1; go_at_call 53; (with_reducible refine ((T1 _).out).mono ?_); rintro e w1 ⟨rfl, hb1⟩; clear tok1 _t; have hz1 := hb1.size; (try simp only [World.size_alloc, World.size_setCell, World.size_drew, World.size_drewN'] at hz1); (try (have k1_w_0_0 := cellAt hb1 (w.heap.size) (by go_size) 0; simp [go_sem, *] at k1_w_0_0)); (try (have k1_w_0_1 := cellAt hb1 (w.heap.size) (by go_size) 1; simp [go_sem, *] at k1_w_0_1)); (try (have f1_w_0 := frozAt hb1 (w.heap.size) (by go_size); simp [go_sem, *] at f1_w_0)); (try have l1_w_0 : w.heap.size < w1.heap.size := by omega); (try (have k1_w_1_0 := cellAt hb1 (w.heap.size + 1) (by go_size) 0; simp [go_sem, *] at k1_w_1_0)); (try (have k1_w_1_1 := cellAt hb1 (w.heap.size + 1) (by go_size) 1; simp [go_sem, *] at k1_w_1_1)); (try (have f1_w_1 := frozAt hb1 (w.heap.size + 1) (by go_size); simp [go_sem, *] at f1_w_1)); (try have l1_w_1 : w.heap.size + 1 < w1.heap.size := by omega)) | (go_at_call 54; (with_reducible refine ((T2 _).out).mono ?_); rintro e w' ⟨rfl, rfl⟩) | (have _t := tok2; go_at_call 56; (with_reducible refine ((T3 _).out).mono ?_); rintro e w2 ⟨rfl, hb2⟩; clear tok2 _t; have hz2 := hb2.size; (try simp only [World.size_alloc, World.size_setCell, World.size_drew, World.size_drewN'] at hz2); (try (have k2_w_0_0 := cellAt hb2 (w.heap.size) (by go_size) 0; simp [go_sem, *] at k2_w_0_0)); (try (have k2_w_0_1 := cellAt hb2 (w.heap.size) (by go_size) 1; simp [go_sem, *] at k2_w_0_1)); (try (have f2_w_0 := frozAt hb2 (w.heap.size) (by go_size); simp [go_sem, *] at f2_w_0)); (try have l2_w_0 : w.heap.size < w2.heap.size := by omega); (try (have k2_w_1_0 := cellAt hb2 (w.heap.size + 1) (by go_size) 0; simp [go_sem, *] at k2_w_1_0)); (try (have k2_w_1_1 := cellAt hb2 (w.heap.size + 1) (by go_size) 1; simp [go_sem, *] at k2_w_1_1)); (try (have f2_w_1 := frozAt hb2 (w.heap.size + 1) (by go_size); simp [go_sem, *] at f2_w_1)); (try have l2_w_1 : w.heap.size + 1 < w2.heap.size := by omega); (try clear k1_w_0_0); (try clear k1_w_0_1); (try clear f1_w_0); (try clear l1_w_0); (try clear k1_w_1_0); (try clear k1_w_1_1); (try clear f1_w_1); (try clear l1_w_1)) | (go_at_call 57; (with_reducible refine ((T4 _).out).mono ?_); rintro e w' ⟨rfl, rfl⟩) | (have _t := tok3; go_at_call 55; (with_reducible refine ((T5 _).out).mono ?_); rintro e w3 ⟨rfl, hb3⟩; clear tok3 _t; have hz3 := hb3.size; (try simp only [World.size_alloc, World.size_setCell, World.size_drew, World.size_drewN'] at hz3); (try (have k3_w_0_0 := cellAt hb3 (w.heap.size) (by go_size) 0; simp [go_sem, *] at k3_w_0_0)); (try (have k3_w_0_1 := cellAt hb3 (w.heap.size) (by go_size) 1; simp [go_sem, *] at k3_w_0_1)); (try (have f3_w_0 := frozAt hb3 (w.heap.size) (by go_size); simp [go_sem, *] at f3_w_0)); (try have l3_w_0 : w.heap.size < w3.heap.size := by omega); (try (have k3_w_1_0 := cellAt hb3 (w.heap.size + 1) (by go_size) 0; simp [go_sem, *] at k3_w_1_0)); (try (have k3_w_1_1 := cellAt hb3 (w.heap.size + 1) (by go_size) 1; simp [go_sem, *] at k3_w_1_1)); (try (have f3_w_1 := frozAt hb3 (w.heap.size + 1) (by go_size); simp [go_sem, *] at f3_w_1)); (try have l3_w_1 : w.heap.size + 1 < w3.heap.size := by omega); (try clear k1_w_0_0); (try clear k1_w_0_1); (try clear f1_w_0); (try clear l1_w_0); (try clear k1_w_1_0); (try clear k1_w_1_1); (try clear f1_w_1); (try clear l1_w_1); (try clear k2_w_0_0); (try clear k2_w_0_1); (try clear f2_w_0); (try clear l2_w_0); (try clear k2_w_1_0); (try clear k2_w_1_1); (try clear f2_w_1); (try clear l2_w_1)))
    refine bodyPost_ret (v := _) (by simp [results, Try.results14, go_sem, *]) rfl ⟨rfl, ?_⟩
    repeat' first | (with_reducible exact Below.refl _ _) | (with_reducible assumption) | (with_reducible refine below_drewN ?_ _) | (with_reducible refine Below.drew ?_) | (with_reducible refine Below.alloc ?_ ?_ _) | (with_reducible refine Below.setCell ?_ ?_ _) | (with_reducible refine below_via (by assumption) ?_ ?_) | go_size
  · rw [e]
    have hc := cvB_bd h1
    have hk := inB_iff.1 h2
    have hd := dc_bd hc.1 hc.2.1
    have hf := four_bd hk.1 hk.2
    have T3 := fun W : World => Lib.hid (htConstant_any A B W hc.1 hc.2.1)
    have T4 := fun W : World => Lib.hid (chPower_any k W hk.1 hk.2)
    rw [h1] at T1
    rw [h2] at T2
    clear h1 h2 e hc
    generalize dcV A B = v at *
    generalize (4 : Int) ^ k.toNat = q at *
    have T5 := fun W : World => Lib.hid (frMake_any (3 + 2 * v) (q * 3) W (by omega) (by omega) (by omega) (by omega) (by omega))
    generalize mkF (3 + 2 * v) (q * 3) = r at *
    obtain ⟨r1, r2, r3⟩ := r
    have tok1 : True := trivial
    have tok2 : True := trivial
    have tok3 : True := trivial
    go_enter Try.func14, Try.ntmps14
    go_wp2_with (first | (have _t := tok1; go_at_call 53; (with_reducible refine ((T1 _).out).mono ?_); rintro e w1 ⟨rfl, hb1⟩; clear tok1 _t; have hz1 := hb1.size; (try simp only [World.size_alloc, World.size_setCell, World.size_drew, World.size_drewN'] at hz1); (try (have k1_w_0_0 := cellAt hb1 (w.heap.size) (by go_size) 0; simp [go_sem, *] at k1_w_0_0)); (try (have k1_w_0_1 := cellAt hb1 (w.heap.size) (by go_size) 1; simp [go_sem, *] at k1_w_0_1)); (try (have f1_w_0 := frozAt hb1 (w.heap.size) (by go_size); simp [go_sem, *] at f1_w_0)); (try have l1_w_0 : w.heap.size < w1.heap.size := by omega); (try (have k1_w_1_0 := cellAt hb1 (w.heap.size + 1) (by go_size) 0; simp [go_sem, *] at k1_w_1_0)); (try (have k1_w_1_1 := cellAt hb1 (w.heap.size + 1) (by go_size) 1; simp [go_sem, *] at k1_w_1_1)); (try (have f1_w_1 := frozAt hb1 (w.heap.size + 1) (by go_size); simp [go_sem, *] at f1_w_1)); (try have l1_w_1 : w.heap.size + 1 < w1.heap.size := by omega)) | (go_at_call 54; (with_reducible refine ((T2 _).out).mono ?_); rintro e w' ⟨rfl, rfl⟩) | (have _t := tok2; go_at_call 56; (with_reducible refine ((T3 _).out).mono ?_); rintro e w2 ⟨rfl, hb2⟩; clear tok2 _t; have hz2 := hb2.size; (try simp only [World.size_alloc, World.size_setCell, World.size_drew, World.size_drewN'] at hz2); (try (have k2_w_0_0 := cellAt hb2 (w.heap.size) (by go_size) 0; simp [go_sem, *] at k2_w_0_0)); (try (have k2_w_0_1 := cellAt hb2 (w.heap.size) (by go_size) 1; simp [go_sem, *] at k2_w_0_1)); (try (have f2_w_0 := frozAt hb2 (w.heap.size) (by go_size); simp [go_sem, *] at f2_w_0)); (try have l2_w_0 : w.heap.size < w2.heap.size := by omega); (try (have k2_w_1_0 := cellAt hb2 (w.heap.size + 1) (by go_size) 0; simp [go_sem, *] at k2_w_1_0)); (try (have k2_w_1_1 := cellAt hb2 (w.heap.size + 1) (by go_size) 1; simp [go_sem, *] at k2_w_1_1)); (try (have f2_w_1 := frozAt hb2 (w.heap.size + 1) (by go_size); simp [go_sem, *] at f2_w_1)); (try have l2_w_1 : w.heap.size + 1 < w2.heap.size := by omega); (try clear k1_w_0_0); (try clear k1_w_0_1); (try clear f1_w_0); (try clear l1_w_0); (try clear k1_w_1_0); (try clear k1_w_1_1); (try clear f1_w_1); (try clear l1_w_1)) | (go_at_call 57; (with_reducible refine ((T4 _).out).mono ?_); rintro e w' ⟨rfl, rfl⟩) | (have _t := tok3; go_at_call 55; (with_reducible refine ((T5 _).out).mono ?_); rintro e w3 ⟨rfl, hb3⟩; clear tok3 _t; have hz3 := hb3.size; (try simp only [World.size_alloc, World.size_setCell, World.size_drew, World.size_drewN'] at hz3); (try (have k3_w_0_0 := cellAt hb3 (w.heap.size) (by go_size) 0; simp [go_sem, *] at k3_w_0_0)); (try (have k3_w_0_1 := cellAt hb3 (w.heap.size) (by go_size) 1; simp [go_sem, *] at k3_w_0_1)); (try (have f3_w_0 := frozAt hb3 (w.heap.size) (by go_size); simp [go_sem, *] at f3_w_0)); (try have l3_w_0 : w.heap.size < w3.heap.size := by omega); (try (have k3_w_1_0 := cellAt hb3 (w.heap.size + 1) (by go_size) 0; simp [go_sem, *] at k3_w_1_0)); (try (have k3_w_1_1 := cellAt hb3 (w.heap.size + 1) (by go_size) 1; simp [go_sem, *] at k3_w_1_1)); (try (have f3_w_1 := frozAt hb3 (w.heap.size + 1) (by go_size); simp [go_sem, *] at f3_w_1)); (try have l3_w_1 : w.heap.size + 1 < w3.heap.size := by omega); (try clear k1_w_0_0); (try clear k1_w_0_1); (try clear f1_w_0); (try clear l1_w_0); (try clear k1_w_1_0); (try clear k1_w_1_1); (try clear f1_w_1); (try clear l1_w_1); (try clear k2_w_0_0); (try clear k2_w_0_1); (try clear f2_w_0); (try clear l2_w_0); (try clear k2_w_1_0); (try clear k2_w_1_1); (try clear f2_w_1); (try clear l2_w_1)))
    refine bodyPost_ret (v := _) (by simp [results, Try.results14, go_sem, *]) rfl ⟨rfl, ?_⟩
    repeat' first | (with_reducible exact Below.refl _ _) | (with_reducible assumption) | (with_reducible refine below_drewN ?_ _) | (with_reducible refine Below.drew ?_) | (with_reducible refine Below.alloc ?_ ?_ _) | (with_reducible refine Below.setCell ?_ ?_ _) | (with_reducible refine below_via (by assumption) ?_ ?_) | go_size
theorem HeightWidth_any (A B k : Int) (w : World) : Calls Try.prog 16 #[.agg #[.int .i64 A, .int .i64 B], .int .i64 k] w fun e w' =>
    e = .returned (.tuple #[.agg #[.int .i64 (hwV A B k).1, .int .i64 (hwV A B k).2.1], .bool (hwV A B k).2.2]) ∧ Below w.heap.size w w' := by
  have T1 := fun W : World => Lib.hid (isCurve_any A B W)
  have T2 := fun W : World => Lib.hid (inside_any k 0 5 W)
  rcases hwB_cases A B k with ⟨h1, e⟩ | ⟨h1, ⟨h2, e⟩ | ⟨h2, e⟩⟩
  · rw [e]
    have T3 := T1; have T4 := T1; have T5 := T1
    rw [h1] at T1
    clear h1 e
    have tok1 : True := trivial
    have tok2 : True := trivial
    have tok3 : True := trivial
    go_enter Try.func16, Try.ntmps16
    go_wp2_with (first | (have _t := tok1; go_at_call 58; (with_reducible refine ((T1 _).out).mono ?_); rintro e w1 ⟨rfl, hb1⟩; clear tok1 _t; have hz1 := hb1.size; (try simp only [World.size_alloc, World.size_setCell, World.size_drew, World.size_drewN'] at hz1); (try (have k1_w_0_0 := cellAt hb1 (w.heap.size) (by go_size) 0; simp [go_sem, *] at k1_w_0_0)); (try (have k1_w_0_1 := cellAt hb1 (w.heap.size) (by go_size) 1; simp [go_sem, *] at k1_w_0_1)); (try (have f1_w_0 := frozAt hb1 (w.heap.size) (by go_size); simp [go_sem, *] at f1_w_0)); (try have l1_w_0 : w.heap.size < w1.heap.size := by omega); (try (have k1_w_1_0 := cellAt hb1 (w.heap.size + 1) (by go_size) 0; simp [go_sem, *] at k1_w_1_0)); (try (have k1_w_1_1 := cellAt hb1 (w.heap.size + 1) (by go_size) 1; simp [go_sem, *] at k1_w_1_1)); (try (have f1_w_1 := frozAt hb1 (w.heap.size + 1) (by go_size); simp [go_sem, *] at f1_w_1)); (try have l1_w_1 : w.heap.size + 1 < w1.heap.size := by omega)) | (go_at_call 59; (with_reducible refine ((T2 _).out).mono ?_); rintro e w' ⟨rfl, rfl⟩) | (have _t := tok2; go_at_call 61; (with_reducible refine ((T3 _).out).mono ?_); rintro e w2 ⟨rfl, hb2⟩; clear tok2 _t; have hz2 := hb2.size; (try simp only [World.size_alloc, World.size_setCell, World.size_drew, World.size_drewN'] at hz2); (try (have k2_w_0_0 := cellAt hb2 (w.heap.size) (by go_size) 0; simp [go_sem, *] at k2_w_0_0)); (try (have k2_w_0_1 := cellAt hb2 (w.heap.size) (by go_size) 1; simp [go_sem, *] at k2_w_0_1)); (try (have f2_w_0 := frozAt hb2 (w.heap.size) (by go_size); simp [go_sem, *] at f2_w_0)); (try have l2_w_0 : w.heap.size < w2.heap.size := by omega); (try (have k2_w_1_0 := cellAt hb2 (w.heap.size + 1) (by go_size) 0; simp [go_sem, *] at k2_w_1_0)); (try (have k2_w_1_1 := cellAt hb2 (w.heap.size + 1) (by go_size) 1; simp [go_sem, *] at k2_w_1_1)); (try (have f2_w_1 := frozAt hb2 (w.heap.size + 1) (by go_size); simp [go_sem, *] at f2_w_1)); (try have l2_w_1 : w.heap.size + 1 < w2.heap.size := by omega); (try clear k1_w_0_0); (try clear k1_w_0_1); (try clear f1_w_0); (try clear l1_w_0); (try clear k1_w_1_0); (try clear k1_w_1_1); (try clear f1_w_1); (try clear l1_w_1)) | (go_at_call 62; (with_reducible refine ((T4 _).out).mono ?_); rintro e w' ⟨rfl, rfl⟩) | (have _t := tok3; go_at_call 60; (with_reducible refine ((T5 _).out).mono ?_); rintro e w3 ⟨rfl, hb3⟩; clear tok3 _t; have hz3 := hb3.size; (try simp only [World.size_alloc, World.size_setCell, World.size_drew, World.size_drewN'] at hz3); (try (have k3_w_0_0 := cellAt hb3 (w.heap.size) (by go_size) 0; simp [go_sem, *] at k3_w_0_0)); (try (have k3_w_0_1 := cellAt hb3 (w.heap.size) (by go_size) 1; simp [go_sem, *] at k3_w_0_1)); (try (have f3_w_0 := frozAt hb3 (w.heap.size) (by go_size); simp [go_sem, *] at f3_w_0)); (try have l3_w_0 : w.heap.size < w3.heap.size := by omega); (try (have k3_w_1_0 := cellAt hb3 (w.heap.size + 1) (by go_size) 0; simp [go_sem, *] at k3_w_1_0)); (try (have k3_w_1_1 := cellAt hb3 (w.heap.size + 1) (by go_size) 1; simp [go_sem, *] at k3_w_1_1)); (try (have f3_w_1 := frozAt hb3 (w.heap.size + 1) (by go_size); simp [go_sem, *] at f3_w_1)); (try have l3_w_1 : w.heap.size + 1 < w3.heap.size := by omega); (try clear k1_w_0_0); (try clear k1_w_0_1); (try clear f1_w_0); (try clear l1_w_0); (try clear k1_w_1_0); (try clear k1_w_1_1); (try clear f1_w_1); (try clear l1_w_1); (try clear k2_w_0_0); (try clear k2_w_0_1); (try clear f2_w_0); (try clear l2_w_0); (try clear k2_w_1_0); (try clear k2_w_1_1); (try clear f2_w_1); (try clear l2_w_1)))
    refine bodyPost_ret (v := _) (by simp [results, Try.results16, go_sem, *]) rfl ⟨rfl, ?_⟩
    repeat' first | (with_reducible exact Below.refl _ _) | (with_reducible assumption) | (with_reducible refine below_drewN ?_ _) | (with_reducible refine Below.drew ?_) | (with_reducible refine Below.alloc ?_ ?_ _) | (with_reducible refine Below.setCell ?_ ?_ _) | (with_reducible refine below_via (by assumption) ?_ ?_) | go_size
  · rw [e]
    have T3 := T1; have T4 := T1; have T5 := T1
    rw [h1] at T1
    rw [h2] at T2
    clear h1 h2 e
    have tok1 : True := trivial
    have tok2 : True := trivial
    have tok3 : True := trivial
    go_enter Try.func16, Try.ntmps16
    go_wp2_with (first | (have _t := tok1; go_at_call 58; (with_reducible refine ((T1 _).out).mono ?_); rintro e w1 ⟨rfl, hb1⟩; clear tok1 _t; have hz1 := hb1.size; (try simp only [World.size_alloc, World.size_setCell, World.size_drew, World.size_drewN'] at hz1); (try (have k1_w_0_0 := cellAt hb1 (w.heap.size) (by go_size) 0; simp [go_sem, *] at k1_w_0_0)); (try (have k1_w_0_1 := cellAt hb1 (w.heap.size) (by go_size) 1; simp [go_sem, *] at k1_w_0_1)); (try (have f1_w_0 := frozAt hb1 (w.heap.size) (by go_size); simp [go_sem, *] at f1_w_0)); (try have l1_w_0 : w.heap.size < w1.heap.size := by omega); (try (have k1_w_1_0 := cellAt hb1 (w.heap.size + 1) (by go_size) 0; simp [go_sem, *] at k1_w_1_0)); (try (have k1_w_1_1 := cellAt hb1 (w.heap.size + 1) (by go_size) 1; simp [go_sem, *] at k1_w_1_1)); (try (have f1_w_1 := frozAt hb1 (w.heap.size + 1) (by go_size); simp [go_sem, *] at f1_w_1)); (try have l1_w_1 : w.heap.size + 1 < w1.heap.size := by omega)) | (go_at_call 59; (with_reducible refine ((T2 _).out).mono ?_); rintro e w' ⟨rfl, rfl⟩) | (have _t := tok2; go_at_call 61; (with_reducible refine ((T3 _).out).mono ?_); rintro e w2 ⟨rfl, hb2⟩; clear tok2 _t; have hz2 := hb2.size; (try simp only [World.size_alloc, World.size_setCell, World.size_drew, World.size_drewN'] at hz2); (try (have k2_w_0_0 := cellAt hb2 (w.heap.size) (by go_size) 0; simp [go_sem, *] at k2_w_0_0)); (try (have k2_w_0_1 := cellAt hb2 (w.heap.size) (by go_size) 1; simp [go_sem, *] at k2_w_0_1)); (try (have f2_w_0 := frozAt hb2 (w.heap.size) (by go_size); simp [go_sem, *] at f2_w_0)); (try have l2_w_0 : w.heap.size < w2.heap.size := by omega); (try (have k2_w_1_0 := cellAt hb2 (w.heap.size + 1) (by go_size) 0; simp [go_sem, *] at k2_w_1_0)); (try (have k2_w_1_1 := cellAt hb2 (w.heap.size + 1) (by go_size) 1; simp [go_sem, *] at k2_w_1_1)); (try (have f2_w_1 := frozAt hb2 (w.heap.size + 1) (by go_size); simp [go_sem, *] at f2_w_1)); (try have l2_w_1 : w.heap.size + 1 < w2.heap.size := by omega); (try clear k1_w_0_0); (try clear k1_w_0_1); (try clear f1_w_0); (try clear l1_w_0); (try clear k1_w_1_0); (try clear k1_w_1_1); (try clear f1_w_1); (try clear l1_w_1)) | (go_at_call 62; (with_reducible refine ((T4 _).out).mono ?_); rintro e w' ⟨rfl, rfl⟩) | (have _t := tok3; go_at_call 60; (with_reducible refine ((T5 _).out).mono ?_); rintro e w3 ⟨rfl, hb3⟩; clear tok3 _t; have hz3 := hb3.size; (try simp only [World.size_alloc, World.size_setCell, World.size_drew, World.size_drewN'] at hz3); (try (have k3_w_0_0 := cellAt hb3 (w.heap.size) (by go_size) 0; simp [go_sem, *] at k3_w_0_0)); (try (have k3_w_0_1 := cellAt hb3 (w.heap.size) (by go_size) 1; simp [go_sem, *] at k3_w_0_1)); (try (have f3_w_0 := frozAt hb3 (w.heap.size) (by go_size); simp [go_sem, *] at f3_w_0)); (try have l3_w_0 : w.heap.size < w3.heap.size := by omega); (try (have k3_w_1_0 := cellAt hb3 (w.heap.size + 1) (by go_size) 0; simp [go_sem, *] at k3_w_1_0)); (try (have k3_w_1_1 := cellAt hb3 (w.heap.size + 1) (by go_size) 1; simp [go_sem, *] at k3_w_1_1)); (try (have f3_w_1 := frozAt hb3 (w.heap.size + 1) (by go_size); simp [go_sem, *] at f3_w_1)); (try have l3_w_1 : w.heap.size + 1 < w3.heap.size := by omega); (try clear k1_w_0_0); (try clear k1_w_0_1); (try clear f1_w_0); (try clear l1_w_0); (try clear k1_w_1_0); (try clear k1_w_1_1); (try clear f1_w_1); (try clear l1_w_1); (try clear k2_w_0_0); (try clear k2_w_0_1); (try clear f2_w_0); (try clear l2_w_0); (try clear k2_w_1_0); (try clear k2_w_1_1); (try clear f2_w_1); (try clear l2_w_1)))
    refine bodyPost_ret (v := _) (by simp [results, Try.results16, go_sem, *]) rfl ⟨rfl, ?_⟩
    repeat' first | (with_reducible exact Below.refl _ _) | (with_reducible assumption) | (with_reducible refine below_drewN ?_ _) | (with_reducible refine Below.drew ?_) | (with_reducible refine Below.alloc ?_ ?_ _) | (with_reducible refine Below.setCell ?_ ?_ _) | (with_reducible refine below_via (by assumption) ?_ ?_) | go_size
  · rw [e]
    have hc := cvB_bd h1
    have hk := inB_iff.1 h2
    have hd := dc_bd hc.1 hc.2.1
    have hf := four_bd hk.1 hk.2
    have T3 := fun W : World => Lib.hid (doublingConstant_any A B W hc.1 hc.2.1)
    have T4 := fun W : World => Lib.hid (intPower_any 4 k W (by omega) hk.1 (by omega) (by omega))
    rw [h1] at T1
    rw [h2] at T2
    clear h1 h2 e hc
    generalize dcV A B = v at *
    generalize (4 : Int) ^ k.toNat = q at *
    have T5 := fun W : World => Lib.hid (makeFraction_any (3 + 2 * v) (q * 3) W (by omega) (by omega) (by omega) (by omega) (by omega))
    have hm : q * 3 = 3 * q := by omega
    rw [hm] at T5 ⊢
    clear hm
    generalize mkF (3 + 2 * v) (3 * q) = r at *
    obtain ⟨r1, r2, r3⟩ := r
    have tok1 : True := trivial
    have tok2 : True := trivial
    have tok3 : True := trivial
    go_enter Try.func16, Try.ntmps16
    go_wp2_with (first | (have _t := tok1; go_at_call 58; (with_reducible refine ((T1 _).out).mono ?_); rintro e w1 ⟨rfl, hb1⟩; clear tok1 _t; have hz1 := hb1.size; (try simp only [World.size_alloc, World.size_setCell, World.size_drew, World.size_drewN'] at hz1); (try (have k1_w_0_0 := cellAt hb1 (w.heap.size) (by go_size) 0; simp [go_sem, *] at k1_w_0_0)); (try (have k1_w_0_1 := cellAt hb1 (w.heap.size) (by go_size) 1; simp [go_sem, *] at k1_w_0_1)); (try (have f1_w_0 := frozAt hb1 (w.heap.size) (by go_size); simp [go_sem, *] at f1_w_0)); (try have l1_w_0 : w.heap.size < w1.heap.size := by omega); (try (have k1_w_1_0 := cellAt hb1 (w.heap.size + 1) (by go_size) 0; simp [go_sem, *] at k1_w_1_0)); (try (have k1_w_1_1 := cellAt hb1 (w.heap.size + 1) (by go_size) 1; simp [go_sem, *] at k1_w_1_1)); (try (have f1_w_1 := frozAt hb1 (w.heap.size + 1) (by go_size); simp [go_sem, *] at f1_w_1)); (try have l1_w_1 : w.heap.size + 1 < w1.heap.size := by omega)) | (go_at_call 59; (with_reducible refine ((T2 _).out).mono ?_); rintro e w' ⟨rfl, rfl⟩) | (have _t := tok2; go_at_call 61; (with_reducible refine ((T3 _).out).mono ?_); rintro e w2 ⟨rfl, hb2⟩; clear tok2 _t; have hz2 := hb2.size; (try simp only [World.size_alloc, World.size_setCell, World.size_drew, World.size_drewN'] at hz2); (try (have k2_w_0_0 := cellAt hb2 (w.heap.size) (by go_size) 0; simp [go_sem, *] at k2_w_0_0)); (try (have k2_w_0_1 := cellAt hb2 (w.heap.size) (by go_size) 1; simp [go_sem, *] at k2_w_0_1)); (try (have f2_w_0 := frozAt hb2 (w.heap.size) (by go_size); simp [go_sem, *] at f2_w_0)); (try have l2_w_0 : w.heap.size < w2.heap.size := by omega); (try (have k2_w_1_0 := cellAt hb2 (w.heap.size + 1) (by go_size) 0; simp [go_sem, *] at k2_w_1_0)); (try (have k2_w_1_1 := cellAt hb2 (w.heap.size + 1) (by go_size) 1; simp [go_sem, *] at k2_w_1_1)); (try (have f2_w_1 := frozAt hb2 (w.heap.size + 1) (by go_size); simp [go_sem, *] at f2_w_1)); (try have l2_w_1 : w.heap.size + 1 < w2.heap.size := by omega); (try clear k1_w_0_0); (try clear k1_w_0_1); (try clear f1_w_0); (try clear l1_w_0); (try clear k1_w_1_0); (try clear k1_w_1_1); (try clear f1_w_1); (try clear l1_w_1)) | (go_at_call 62; (with_reducible refine ((T4 _).out).mono ?_); rintro e w' ⟨rfl, rfl⟩) | (have _t := tok3; go_at_call 60; (with_reducible refine ((T5 _).out).mono ?_); rintro e w3 ⟨rfl, hb3⟩; clear tok3 _t; have hz3 := hb3.size; (try simp only [World.size_alloc, World.size_setCell, World.size_drew, World.size_drewN'] at hz3); (try (have k3_w_0_0 := cellAt hb3 (w.heap.size) (by go_size) 0; simp [go_sem, *] at k3_w_0_0)); (try (have k3_w_0_1 := cellAt hb3 (w.heap.size) (by go_size) 1; simp [go_sem, *] at k3_w_0_1)); (try (have f3_w_0 := frozAt hb3 (w.heap.size) (by go_size); simp [go_sem, *] at f3_w_0)); (try have l3_w_0 : w.heap.size < w3.heap.size := by omega); (try (have k3_w_1_0 := cellAt hb3 (w.heap.size + 1) (by go_size) 0; simp [go_sem, *] at k3_w_1_0)); (try (have k3_w_1_1 := cellAt hb3 (w.heap.size + 1) (by go_size) 1; simp [go_sem, *] at k3_w_1_1)); (try (have f3_w_1 := frozAt hb3 (w.heap.size + 1) (by go_size); simp [go_sem, *] at f3_w_1)); (try have l3_w_1 : w.heap.size + 1 < w3.heap.size := by omega); (try clear k1_w_0_0); (try clear k1_w_0_1); (try clear f1_w_0); (try clear l1_w_0); (try clear k1_w_1_0); (try clear k1_w_1_1); (try clear f1_w_1); (try clear l1_w_1); (try clear k2_w_0_0); (try clear k2_w_0_1); (try clear f2_w_0); (try clear l2_w_0); (try clear k2_w_1_0); (try clear k2_w_1_1); (try clear f2_w_1); (try clear l2_w_1)))
    refine bodyPost_ret (v := _) (by simp [results, Try.results16, go_sem, *]) rfl ⟨rfl, ?_⟩
    repeat' first | (with_reducible exact Below.refl _ _) | (with_reducible assumption) | (with_reducible refine below_drewN ?_ _) | (with_reducible refine Below.drew ?_) | (with_reducible refine Below.alloc ?_ ?_ _) | (with_reducible refine Below.setCell ?_ ?_ _) | (with_reducible refine below_via (by assumption) ?_ ?_) | go_size
theorem FnExactHeightWidth_any (a0_0 a0_1 a1_0 : Int) (w : World) : Calls Try.prog 3 #[.agg #[.int .i64 a0_0, .int .i64 a0_1], .int .i64 a1_0] w fun e w' => e = .returned (.bool true) ∧ Below w.heap.size w w' := by
  have CS := fun W : World => Lib.hid (sHeightWidth_any a0_0 a0_1 a1_0 W)
  have CI := fun W : World => Lib.hid (HeightWidth_any a0_0 a0_1 a1_0 W)
  have tok1 : True := trivial
  have tok2 : True := trivial
  have tok3 : True := trivial
  have tok4 : True := trivial
  have tok5 : True := trivial
  go_enter Try.func3, Try.ntmps3
  go_wp2_with (first | (have _t := tok1; go_at_call 15; refine (toCurve_any _ _ _).mono ?_; rintro e w1 ⟨rfl, hb1⟩; clear tok1 _t; have hz1 := hb1.size; (try simp only [World.size_alloc, World.size_setCell, World.size_drew, World.size_drewN'] at hz1); (try (have k1_w_0_0 := cellAt hb1 (w.heap.size) (by go_size) 0; simp [go_sem, *] at k1_w_0_0)); (try (have k1_w_0_1 := cellAt hb1 (w.heap.size) (by go_size) 1; simp [go_sem, *] at k1_w_0_1)); (try (have f1_w_0 := frozAt hb1 (w.heap.size) (by go_size); simp [go_sem, *] at f1_w_0)); (try have l1_w_0 : w.heap.size < w1.heap.size := by omega)) | (have _t := tok2; go_at_call 14; refine ((CS _).out).mono ?_; rintro e w2 ⟨rfl, hb2⟩; clear tok2 _t; have hz2 := hb2.size; (try simp only [World.size_alloc, World.size_setCell, World.size_drew, World.size_drewN'] at hz2); (try (have k2_w_0_0 := cellAt hb2 (w.heap.size) (by go_size) 0; simp [go_sem, *] at k2_w_0_0)); (try (have k2_w_0_1 := cellAt hb2 (w.heap.size) (by go_size) 1; simp [go_sem, *] at k2_w_0_1)); (try (have f2_w_0 := frozAt hb2 (w.heap.size) (by go_size); simp [go_sem, *] at f2_w_0)); (try have l2_w_0 : w.heap.size < w2.heap.size := by omega); (try clear k1_w_0_0); (try clear k1_w_0_1); (try clear f1_w_0); (try clear l1_w_0)) | (have _t := tok3; go_at_call 15; refine (toCurve_any _ _ _).mono ?_; rintro e w3 ⟨rfl, hb3⟩; clear tok3 _t; have hz3 := hb3.size; (try simp only [World.size_alloc, World.size_setCell, World.size_drew, World.size_drewN'] at hz3); (try (have k3_w_0_0 := cellAt hb3 (w.heap.size) (by go_size) 0; simp [go_sem, *] at k3_w_0_0)); (try (have k3_w_0_1 := cellAt hb3 (w.heap.size) (by go_size) 1; simp [go_sem, *] at k3_w_0_1)); (try (have f3_w_0 := frozAt hb3 (w.heap.size) (by go_size); simp [go_sem, *] at f3_w_0)); (try have l3_w_0 : w.heap.size < w3.heap.size := by omega); (try (have k3_w2_0_0 := cellAt hb3 (w2.heap.size) (by go_size) 0; simp [go_sem, *] at k3_w2_0_0)); (try (have k3_w2_0_1 := cellAt hb3 (w2.heap.size) (by go_size) 1; simp [go_sem, *] at k3_w2_0_1)); (try (have f3_w2_0 := frozAt hb3 (w2.heap.size) (by go_size); simp [go_sem, *] at f3_w2_0)); (try have l3_w2_0 : w2.heap.size < w3.heap.size := by omega); (try clear k1_w_0_0); (try clear k1_w_0_1); (try clear f1_w_0); (try clear l1_w_0); (try clear k2_w_0_0); (try clear k2_w_0_1); (try clear f2_w_0); (try clear l2_w_0)) | (have _t := tok4; go_at_call 16; refine ((CI _).out).mono ?_; rintro e w4 ⟨rfl, hb4⟩; clear tok4 _t; have hz4 := hb4.size; (try simp only [World.size_alloc, World.size_setCell, World.size_drew, World.size_drewN'] at hz4); (try (have k4_w_0_0 := cellAt hb4 (w.heap.size) (by go_size) 0; simp [go_sem, *] at k4_w_0_0)); (try (have k4_w_0_1 := cellAt hb4 (w.heap.size) (by go_size) 1; simp [go_sem, *] at k4_w_0_1)); (try (have f4_w_0 := frozAt hb4 (w.heap.size) (by go_size); simp [go_sem, *] at f4_w_0)); (try have l4_w_0 : w.heap.size < w4.heap.size := by omega); (try (have k4_w2_0_0 := cellAt hb4 (w2.heap.size) (by go_size) 0; simp [go_sem, *] at k4_w2_0_0)); (try (have k4_w2_0_1 := cellAt hb4 (w2.heap.size) (by go_size) 1; simp [go_sem, *] at k4_w2_0_1)); (try (have f4_w2_0 := frozAt hb4 (w2.heap.size) (by go_size); simp [go_sem, *] at f4_w2_0)); (try have l4_w2_0 : w2.heap.size < w4.heap.size := by omega); (try clear k1_w_0_0); (try clear k1_w_0_1); (try clear f1_w_0); (try clear l1_w_0); (try clear k2_w_0_0); (try clear k2_w_0_1); (try clear f2_w_0); (try clear l2_w_0); (try clear k3_w_0_0); (try clear k3_w_0_1); (try clear f3_w_0); (try clear l3_w_0); (try clear k3_w2_0_0); (try clear k3_w2_0_1); (try clear f3_w2_0); (try clear l3_w2_0)) | (have _t := tok5; go_at_call 17; refine (eqFraction_same _ _ _).mono ?_; rintro e w5 ⟨rfl, hb5⟩; clear tok5 _t; have hz5 := hb5.size; (try simp only [World.size_alloc, World.size_setCell, World.size_drew, World.size_drewN'] at hz5); (try (have k5_w_0_0 := cellAt hb5 (w.heap.size) (by go_size) 0; simp [go_sem, *] at k5_w_0_0)); (try (have k5_w_0_1 := cellAt hb5 (w.heap.size) (by go_size) 1; simp [go_sem, *] at k5_w_0_1)); (try (have f5_w_0 := frozAt hb5 (w.heap.size) (by go_size); simp [go_sem, *] at f5_w_0)); (try have l5_w_0 : w.heap.size < w5.heap.size := by omega); (try (have k5_w2_0_0 := cellAt hb5 (w2.heap.size) (by go_size) 0; simp [go_sem, *] at k5_w2_0_0)); (try (have k5_w2_0_1 := cellAt hb5 (w2.heap.size) (by go_size) 1; simp [go_sem, *] at k5_w2_0_1)); (try (have f5_w2_0 := frozAt hb5 (w2.heap.size) (by go_size); simp [go_sem, *] at f5_w2_0)); (try have l5_w2_0 : w2.heap.size < w5.heap.size := by omega); (try (have k5_w4_0_0 := cellAt hb5 (w4.heap.size) (by go_size) 0; simp [go_sem, *] at k5_w4_0_0)); (try (have k5_w4_0_1 := cellAt hb5 (w4.heap.size) (by go_size) 1; simp [go_sem, *] at k5_w4_0_1)); (try (have f5_w4_0 := frozAt hb5 (w4.heap.size) (by go_size); simp [go_sem, *] at f5_w4_0)); (try have l5_w4_0 : w4.heap.size < w5.heap.size := by omega); (try clear k1_w_0_0); (try clear k1_w_0_1); (try clear f1_w_0); (try clear l1_w_0); (try clear k2_w_0_0); (try clear k2_w_0_1); (try clear f2_w_0); (try clear l2_w_0); (try clear k3_w_0_0); (try clear k3_w_0_1); (try clear f3_w_0); (try clear l3_w_0); (try clear k3_w2_0_0); (try clear k3_w2_0_1); (try clear f3_w2_0); (try clear l3_w2_0); (try clear k4_w_0_0); (try clear k4_w_0_1); (try clear f4_w_0); (try clear l4_w_0); (try clear k4_w2_0_0); (try clear k4_w2_0_1); (try clear f4_w2_0); (try clear l4_w2_0)))
  go_ret
  refine ⟨rfl, ?_⟩
  repeat' first | (with_reducible exact Below.refl _ _) | (with_reducible assumption) | (with_reducible refine below_drewN ?_ _) | (with_reducible refine Below.drew ?_) | (with_reducible refine Below.alloc ?_ ?_ _) | (with_reducible refine Below.setCell ?_ ?_ _) | (with_reducible refine below_via (by assumption) ?_ ?_) | go_size
end Go.Proofs.Ytfbegjiebahdcaa
