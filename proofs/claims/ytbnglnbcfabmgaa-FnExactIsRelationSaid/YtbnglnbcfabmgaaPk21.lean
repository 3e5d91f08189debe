/- Lemmas and contracts of functions. No condition. -/
import Derived.Test.YtbnglnbcfabmgaaPk16
namespace Go.Proofs.Ytbnglnbcfabmgaa
open Go.RowKit
set_option linter.unusedVariables false
set_option maxHeartbeats 2000000
set_option maxRecDepth 20000
set_option linter.unusedSimpArgs false
attribute [local go_sem] openAt openUpon
theorem ecPart_any (a b : Int) (w : World) (hb : b ≠ 0) (h1 : -9223372036854775807 ≤ a) (h2 : a ≤ 9223372036854775807) (h3 : -9223372036854775807 ≤ b) (h4 : b ≤ 9223372036854775807) :
  Calls Try.prog 74 #[.int .i64 a, .int .i64 b] w fun e w' => e = .returned (.tuple #[.int .i64 (mkN a b), .int .i64 (mkD a b)]) ∧ Below w.heap.size w w' := by
 have g1 := gcdI_pos (a := a) hb
 have g2 := gcdI_le (a := a) hb
 have a1 := absI_nonneg a
 have a2 := absI_nonneg b
 have a3 : absI a ≤ 9223372036854775807 := absI_le (by omega) (by omega)
 have a4 : absI b ≤ 9223372036854775807 := absI_le (by omega) (by omega)
 have T1 := fun W : World => common_any (absI a) (absI b) W a1 a3 a2 a4
 have hg : gcdI (absI a) (absI b) = gcdI a b := by rw [gcdI_abs, gcdI_abs2]
 rw [hg] at T1
 by_cases hneg : b < 0
 ·have HN : mkN a b = -(a.tdiv (gcdI a b)) := by simp [mkN, hneg]
  have HD : mkD a b = -(b.tdiv (gcdI a b)) := by simp [mkD, hneg]
  rw [HN, HD]
  generalize gcdI a b = g at *
  have q1 := tdiv_bd a g
  have q2 := tdiv_bd b g
  have hnz : -g ≠ 0 := by omega
  clear HN HD hg
  have tok1 := trivial
  have tok2 := trivial
  go_enter Try.func74, Try.ntmps74
  go_wp2_with (first | (go_at_call 73; refine (l1Abs_any _ _ (by omega) (by omega)).mono ?_; rintro e w' ⟨rfl, rfl⟩) | (go_at_call 82; (with_reducible refine ((T1 _)).mono ?_); rintro e w' ⟨rfl, rfl⟩))
  go_region
  go_wp2_with (first | (go_at_call 73; refine (l1Abs_any _ _ (by omega) (by omega)).mono ?_; rintro e w' ⟨rfl, rfl⟩) | (go_at_call 82; (with_reducible refine ((T1 _)).mono ?_); rintro e w' ⟨rfl, rfl⟩))
  refine bodyPost_ret (v := _) (by simp [results, Try.results74, go_sem, *]) rfl ⟨rfl, ?_⟩
  exact bel
 ·have HN : mkN a b = a.tdiv (gcdI a b) := by simp [mkN, hneg]
  have HD : mkD a b = b.tdiv (gcdI a b) := by simp [mkD, hneg]
  rw [HN, HD]
  generalize gcdI a b = g at *
  have q1 := tdiv_bd a g
  have q2 := tdiv_bd b g
  have hnz : g ≠ 0 := by omega
  clear HN HD hg
  have tok1 := trivial
  have tok2 := trivial
  go_enter Try.func74, Try.ntmps74
  go_wp2_with (first | (go_at_call 73; refine (l1Abs_any _ _ (by omega) (by omega)).mono ?_; rintro e w' ⟨rfl, rfl⟩) | (go_at_call 82; (with_reducible refine ((T1 _)).mono ?_); rintro e w' ⟨rfl, rfl⟩))
  go_region
  go_wp2_with (first | (go_at_call 73; refine (l1Abs_any _ _ (by omega) (by omega)).mono ?_; rintro e w' ⟨rfl, rfl⟩) | (go_at_call 82; (with_reducible refine ((T1 _)).mono ?_); rintro e w' ⟨rfl, rfl⟩))
  refine bodyPost_ret (v := _) (by simp [results, Try.results74, go_sem, *]) rfl ⟨rfl, ?_⟩
  exact bel
def IsRt (n r : Int) : Prop := 0 ≤ r ∧ r * r ≤ n ∧ n < (r + 1) * (r + 1)
noncomputable def rtV (n : Int) : Int := Classical.epsilon (IsRt n)
theorem le_sq {b c : Int} (hb : 0 ≤ b) (h : b ≤ c) : b * b ≤ c * c := Int.mul_le_mul h h hb (by omega)
theorem IsRt.det {n r s : Int} (h : IsRt n r) (k : IsRt n s) : r = s := by
 rcases Int.lt_trichotomy r s with t | t | t
 ·have := le_sq (b := r + 1) (c := s) (by have := h.1; omega) (by omega)
  have := h.2.2; have := k.2.1; omega
 ·exact t
 ·have := le_sq (b := s + 1) (c := r) (by have := k.1; omega) (by omega)
  have := k.2.2; have := h.2.1; omega
theorem rtV_eq {n r : Int} (h : IsRt n r) : rtV n = r := IsRt.det (Classical.epsilon_spec (p := IsRt n) ⟨r, h⟩) h
theorem rtV_sq {e : Int} (h : 0 ≤ e) : rtV (e * e) = e := rtV_eq ⟨h, Int.le_refl _, lt_sq h (by omega)⟩
def FrRtRel (n : Int) (x y : Value) : Prop := ∃ l h : Int, x = .int .i64 l ∧ y = .int .i64 h ∧ 0 ≤ l ∧ l < h ∧ h ≤ 2000000001 ∧ l * l ≤ n ∧ n < h * h
theorem frRoot_any (n : Int) (w : World) (h0 : 0 ≤ n) (h1 : n ≤ 4000000000000000000) :
  Calls Try.prog 75 #[.int .i64 n] w fun e w' => e = .returned (.int .i64 (rtV n)) ∧ w = w' := by
 go_enter Try.func75, Try.ntmps75
 go_wp2
 go_loop [3, 4] (fun x y => FrRtRel n x y) (fun x y => (intOf y - intOf x).natAbs)
 case atStart => exact ⟨0, 2000000001, rfl, rfl, by omega, by omega, by omega, by omega, by omega⟩
 case round =>
  obtain ⟨l, h, rfl, rfl, q1, q2, q3, q4, q5⟩ := hrel
  by_cases hc : 1 < h - l
  ·have m1 : (l + h).tdiv 2 = (l + h) / 2 := Int.tdiv_eq_ediv_of_nonneg (by omega)
   have hm : l < (l + h) / 2 ∧ (l + h) / 2 < h := by omega
   have HM := Lib.hid m1
   have hb := mul_bd (a := (l + h) / 2) (b := (l + h) / 2) (A := 2000000000) (B := 2000000000) (by omega) (by omega)
   by_cases hle : (l + h) / 2 * ((l + h) / 2) ≤ n
   ·go_wp2
    go_round
    case rel => exact ⟨(l + h) / 2, h, rfl, rfl, by omega, by omega, q3, hle, q5⟩
    case measure => simp [intOf]; omega
   ·go_wp2
    go_round
    case rel => exact ⟨l, (l + h) / 2, rfl, rfl, by omega, by omega, by omega, q4, by omega⟩
    case measure => simp [intOf]; omega
  ·have hh : h = l + 1 := by omega
   subst hh
   have HR := Lib.hid (rtV_eq (n := n) (r := l) ⟨q1, q4, q5⟩)
   go_wp2
   go_ret
   exact ⟨ret_int HR.out.symm, rfl⟩
end Go.Proofs.Ytbnglnbcfabmgaa
