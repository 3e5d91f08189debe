/- The reference's square roots: what is found is a root. -/
import Derived.Test.YtnemnkbcbokafaaNum
import Derived.Test.YtnemnkbcbokafaaDrA
namespace Go.Proofs.Ytnemnkbcbokafaa
open Go.RowKit
set_option linter.unusedVariables false
set_option maxHeartbeats 4000000
set_option maxRecDepth 20000
set_option linter.unusedSimpArgs false
def IsRt (n r : Int) : Prop := 0 ≤ r ∧ r * r ≤ n ∧ n < (r + 1) * (r + 1)
theorem le_sq {b c : Int} (hb : 0 ≤ b) (h : b ≤ c) : b * b ≤ c * c := Int.mul_le_mul h h hb (by omega)
theorem IsRt.det {n r s : Int} (h : IsRt n r) (k : IsRt n s) : r = s := by
  rcases Int.lt_trichotomy r s with t | t | t
  · have := le_sq (b := r + 1) (c := s) (by have := h.1; omega) (by omega)
    have := h.2.2; have := k.2.1; omega
  · exact t
  · have := le_sq (b := s + 1) (c := r) (by have := k.1; omega) (by omega)
    have := k.2.2; have := h.2.1; omega
theorem IsRt.exact {n r s : Int} (h : IsRt n r) (hs : 0 ≤ s) (hn : s * s = n) : r = s := by
  refine h.det ⟨hs, by omega, ?_⟩
  have : (s + 1) * (s + 1) = s * s + 2 * s + 1 := by grind
  omega
theorem IsRt.top {n r : Int} (h : IsRt n r) {M : Int} (hM : 0 ≤ M) (hn : n < (M + 1) * (M + 1)) : r ≤ M := by
  rcases (show r ≤ M ∨ M + 1 ≤ r by omega) with e | e
  · exact e
  · have := le_sq (b := M + 1) (c := r) (by omega) e
    have := h.2.1
    omega
def FrRtRel (n : Int) (x y : Value) : Prop := ∃ l h : Int, x = .int .i64 l ∧ y = .int .i64 h ∧ 0 ≤ l ∧ l < h ∧ h ≤ 2000000001 ∧ l * l ≤ n ∧ n < h * h
theorem frRoot_is (n : Int) (w : World) (h0 : 0 ≤ n) (h1 : n ≤ 4000000000000000000) :
    Calls Try.prog 48 #[.int .i64 n] w fun e w' => ∃ r : Int, e = .returned (.int .i64 r) ∧ IsRt n r ∧ w = w' := by
  go_enter Try.func48, Try.ntmps48
  go_wp2
  go_loop [3, 4] (fun x y => FrRtRel n x y) (fun x y => (intOf y - intOf x).natAbs)
  case atStart => exact ⟨0, 2000000001, rfl, rfl, by omega, by omega, by omega, by omega, by omega⟩
  case round =>
    obtain ⟨l, h, rfl, rfl, q1, q2, q3, q4, q5⟩ := hrel
    by_cases hc : 1 < h - l
    · have m1 : (l + h).tdiv 2 = (l + h) / 2 := Int.tdiv_eq_ediv_of_nonneg (by omega)
      have hm : l < (l + h) / 2 ∧ (l + h) / 2 < h := by omega
      have HM := Lib.hid m1
      have hb := mul_bd (a := (l + h) / 2) (b := (l + h) / 2) (A := 2000000000) (B := 2000000000) (by omega) (by omega)
      by_cases hle : (l + h) / 2 * ((l + h) / 2) ≤ n
      · go_wp2
        go_round
        case rel => exact ⟨(l + h) / 2, h, rfl, rfl, by omega, by omega, q3, hle, q5⟩
        case measure => simp [intOf]; omega
      · go_wp2
        go_round
        case rel => exact ⟨l, (l + h) / 2, rfl, rfl, by omega, by omega, by omega, q4, by omega⟩
        case measure => simp [intOf]; omega
    · have hh : h = l + 1 := by omega
      subst hh
      go_wp2
      go_ret
      exact ⟨l, rfl, ⟨q1, q4, q5⟩, rfl⟩
noncomputable def rtV (n : Int) : Int := Classical.epsilon (IsRt n)
theorem rtV_eq {n r : Int} (h : IsRt n r) : rtV n = r := IsRt.det (Classical.epsilon_spec (p := IsRt n) ⟨r, h⟩) h
theorem rt_some (n : Int) (h0 : 0 ≤ n) : ∃ r, IsRt n r := by
  have : ∀ (k : Nat) (n : Int), 0 ≤ n → n < ((k : Int) + 1) * ((k : Int) + 1) → ∃ r, IsRt n r := by
    intro k
    induction k with
    | zero => intro n h0 h; exact ⟨0, by omega, by omega, by simpa using h⟩
    | succ k ih =>
      intro n h0 h
      by_cases h2 : n < ((k : Int) + 1) * ((k : Int) + 1)
      · exact ih n h0 h2
      · exact ⟨(k : Int) + 1, by omega, by omega, by rw [Int.natCast_add] at h; exact h⟩
  refine this n.toNat n h0 ?_
  have h3 : ((n.toNat : Nat) : Int) = n := by omega
  rw [h3]
  have : (n + 1) * (n + 1) = n * n + 2 * n + 1 := by grind
  have := Int.mul_nonneg h0 h0
  omega
theorem rtV_is {n : Int} (h0 : 0 ≤ n) : IsRt n (rtV n) := by
  obtain ⟨r, hr⟩ := rt_some n h0
  rw [rtV_eq hr]; exact hr
theorem frRoot_any (n : Int) (w : World) (h0 : 0 ≤ n) (h1 : n ≤ 4000000000000000000) : Calls Try.prog 48 #[.int .i64 n] w fun e w' => e = .returned (.int .i64 (rtV n)) ∧ w = w' :=
  (frRoot_is n w h0 h1).mono fun e w' ⟨r, h2, h3, h4⟩ => ⟨by rw [rtV_eq h3]; exact h2, h4⟩
theorem frSquare_any (n : Int) (w : World) (h0 : 0 ≤ n) (h1 : n ≤ 4000000000000000000) : Calls Try.prog 47 #[.int .i64 n] w fun e w' => e = .returned (.bool (rtV n * rtV n == n)) ∧ w = w' := by
  have TR := fun W : World => Lib.hid (frRoot_any n W h0 h1)
  have hr := rtV_is h0
  have ht := hr.top (M := 2000000000) (by omega) (by omega)
  have hb := hr.1
  have hm := mul_bd (a := rtV n) (b := rtV n) (A := 2000000000) (B := 2000000000) (by omega) (by omega)
  generalize rtV n = r at *
  clear hr
  go_enter Try.func47, Try.ntmps47
  go_wp2_with (first | (go_at_call 48; (with_reducible refine ((TR _).out).mono ?_); rintro e w' ⟨rfl, rfl⟩))
  go_ret
  exact ⟨rfl, rfl⟩
end Go.Proofs.Ytnemnkbcbokafaa
