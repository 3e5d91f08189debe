/- Squares modulo powers of primes: the reference; quartics and pairs: contracts of both sides. -/
import Derived.Test.YtegiddpakocodaaLo3
namespace Go.Proofs.Ytegiddpakocodaa
open Go.RowKit
set_option linter.unusedVariables false
set_option maxHeartbeats 4000000
set_option linter.unusedSimpArgs false
theorem oft_min {r p : Int} {k : Nat} (h : r ≠ 0) : least (k : Int) (vl r p : Nat) = (oft r p k : Nat) := by
  rw [least_eq, oft, if_neg h]; omega
theorem loOften_any (r p : Int) (k : Nat) (w : World) (hp : 2 ≤ p) (hp2 : p ≤ 1000) (h1 : -9223372036854775807 ≤ r) (h2 : r ≤ 9223372036854775807) :
    Calls Try.prog 68 #[.int .i64 r, .int .i64 p, .int .i64 k] w fun e w' => e = .returned (.int .i64 (oft r p k : Nat)) ∧ w = w' := by
  by_cases h0 : r = 0
  · subst h0
    rw [oft_zero]
    generalize (k : Int) = kk
    go_enter Try.func68, Try.ntmps68
    go_wp2
    go_ret
    exact ⟨rfl, rfl⟩
  · have T1 := fun W : World => Lib.hid (mdValuation_any r p W hp (by omega) h0 h1 h2)
    have T2 := fun W : World => Lib.hid (l1Least_any (k : Int) (vl r p : Nat) W)
    rw [oft_min h0] at T2
    have h0' : (r == 0) = false := by simp [h0]
    generalize ((oft r p k : Nat) : Int) = x at *
    generalize ((vl r p : Nat) : Int) = v at *
    generalize (k : Int) = kk at *
    go_enter Try.func68, Try.ntmps68
    go_wp2_with (first | (go_at_call 76; (with_reducible refine (T1 _).out.mono ?_); rintro e w' ⟨rfl, rfl⟩) | (go_at_call 67; (with_reducible refine (T2 _).out.mono ?_); rintro e w' ⟨rfl, rfl⟩))
    go_ret
    exact ⟨rfl, rfl⟩
theorem loSquare_any (r p : Int) (k : Nat) (w : World) (hp : 2 ≤ p) (hp2 : p ≤ 1000) (hk1 : 1 ≤ k) (hk2 : k ≤ 1000) (hM : p ^ k ≤ 1000000000) (hr1 : 0 ≤ r) (hr2 : r < p ^ k) :
    Calls Try.prog 66 #[.int .i64 r, .int .i64 p, .int .i64 k] w fun e w' => e = .returned (.bool (sqLo r p k)) ∧ w = w' := by
  have T1 := fun W : World => Lib.hid (loOften_any r p k W hp hp2 (by omega) (by omega))
  by_cases h0 : r = 0
  · subst h0
    rw [sq_zero]
    rw [oft_zero] at T1
    clear hr1 hr2 hM
    generalize (k : Int) = kk at *
    go_enter Try.func66, Try.ntmps66
    go_wp2_with (go_at_call 68; (with_reducible refine (T1 _).out.mono ?_); rintro e w' ⟨rfl, rfl⟩)
    go_ret
    exact ⟨rfl, rfl⟩
  · have hv := vl_lt hp (by omega) hr2
    have hd := vl_div hp h0
    rw [oft_pos hp (by omega) hr2] at T1
    have hqv := pow_mono' (p := p) (by omega) (Nat.le_of_lt hv)
    have hqv1 := pow_pos' (p := p) (by omega) (vl r p)
    have T5 := fun W : World => Lib.hid (loPower_any p (vl r p) W (by omega) (by omega) (by omega) (by rw [Int.toNat_natCast]; omega))
    rw [Int.toNat_natCast] at T5
    have hu0 : 0 ≤ r / p ^ vl r p := Int.ediv_nonneg hr1 (by omega)
    have hu1 : r / p ^ vl r p ≤ r := Int.ediv_le_self _ hr1
    have hv0 : (0 : Int) ≤ ((vl r p : Nat) : Int) := Int.natCast_nonneg _
    have hne : (((vl r p : Nat) : Int) == k) = false := by simp; omega
    have hvk : ((vl r p : Nat) : Int) < k := by omega
    have hkk : (k : Int) ≤ 1000 := by omega
    by_cases ho : vl r p % 2 = 1
    · rw [sq_odd h0 ho]
      have ho' : ((vl r p : Int) % 2 != 0) = true := by simp; omega
      clear hd hu0 hu1 h0 ho hv
      generalize p ^ vl r p = q2 at *
      generalize p ^ k = q at *
      generalize ((vl r p : Nat) : Int) = v at *
      generalize (k : Int) = kk at *
      go_enter Try.func66, Try.ntmps66
      go_wp2_with (go_at_call 68; (with_reducible refine (T1 _).out.mono ?_); rintro e w' ⟨rfl, rfl⟩)
      go_ret
      exact ⟨rfl, rfl⟩
    · have ho' : ((vl r p : Int) % 2 != 0) = false := by simp; omega
      by_cases h2 : 2 < p
      · rw [sq_big h0 ho h2, ← sy1_sym, ← syS_one _ _ (by omega)]
        have T6 := fun W : World => Lib.hid (mdSymbol_any (r / p ^ vl r p) p W hp (by omega))
        clear hd h0 ho hv
        generalize p ^ vl r p = q2 at *
        generalize p ^ k = q at *
        generalize ((vl r p : Nat) : Int) = v at *
        generalize (k : Int) = kk at *
        generalize syS (r / q2) p = s at *
        go_enter Try.func66, Try.ntmps66
        go_wp2_with (first | (go_at_call 68; (with_reducible refine (T1 _).out.mono ?_); rintro e w' ⟨rfl, rfl⟩) | (go_at_call 38; (with_reducible refine (T5 _).out.mono ?_); rintro e w' ⟨rfl, rfl⟩) | (go_at_call 75; (with_reducible refine (T6 _).out.mono ?_); rintro e w' ⟨rfl, rfl⟩))
        go_ret
        exact ⟨rfl, rfl⟩
      · have hp' : p = 2 := by omega
        subst hp'
        rw [sq_two h0 ho]
        have hmn : least 3 ((k : Int) - (vl r 2 : Nat)) = ((min 3 (k - vl r 2) : Nat) : Int) := by rw [least_eq]; omega
        have hm3 : min 3 (k - vl r 2) ≤ 3 := by omega
        have T7 := fun W : World => Lib.hid (l1Least_any 3 ((k : Int) - (vl r 2 : Nat)) W)
        rw [hmn] at T7
        have hp1 := pow_pos' (p := 2) (by omega) (min 3 (k - vl r 2))
        have hp3 := pow_mono' (p := 2) (by omega) hm3
        have T8 := fun W : World => Lib.hid (loPower_any 2 (min 3 (k - vl r 2) : Nat) W (by omega) (by omega) (by omega) (by rw [Int.toNat_natCast]; omega))
        rw [Int.toNat_natCast] at T8
        clear hd h0 ho hv hmn hm3
        generalize (2 : Int) ^ (min 3 (k - vl r 2)) = q3 at *
        generalize ((min 3 (k - vl r 2) : Nat) : Int) = m at *
        generalize (2 : Int) ^ vl r 2 = q2 at *
        generalize (2 : Int) ^ k = q at *
        generalize ((vl r 2 : Nat) : Int) = v at *
        generalize (k : Int) = kk at *
        go_enter Try.func66, Try.ntmps66
        go_wp2_with (first | (go_at_call 68; (with_reducible refine (T1 _).out.mono ?_); rintro e w' ⟨rfl, rfl⟩) | (go_at_call 38; (with_reducible refine (T5 _).out.mono ?_); rintro e w' ⟨rfl, rfl⟩) | (go_at_call 67; (with_reducible refine (T7 _).out.mono ?_); rintro e w' ⟨rfl, rfl⟩) | (go_at_call 38; (with_reducible refine (T8 _).out.mono ?_); rintro e w' ⟨rfl, rfl⟩))
        go_ret
        exact ⟨ret_bool (by rw [Bool.eq_iff_iff]; simp), rfl⟩
end Go.Proofs.Ytegiddpakocodaa
