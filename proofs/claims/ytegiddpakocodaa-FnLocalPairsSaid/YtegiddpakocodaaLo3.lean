/- Squares modulo powers of primes: contracts of both sides. -/
import Derived.Test.YtegiddpakocodaaLo2
namespace Go.Proofs.Ytegiddpakocodaa
open Go.RowKit
set_option linter.unusedVariables false
set_option maxHeartbeats 4000000
set_option linter.unusedSimpArgs false
theorem sy1_sym (a p : Int) : sy1 a p = symB a p := rfl
theorem sq_zero (p : Int) (k : Nat) : sqLo 0 p k = true := by simp [sqLo]
theorem sq_odd {r p : Int} {k : Nat} (h0 : r ≠ 0) (h : vl r p % 2 = 1) : sqLo r p k = false := by simp [sqLo, h0, h]
theorem sq_big {r p : Int} {k : Nat} (h0 : r ≠ 0) (h : vl r p % 2 ≠ 1) (hp : 2 < p) : sqLo r p k = symB (r / p ^ vl r p) p := by simp [sqLo, h0, h, hp]
theorem sq_two {r : Int} {k : Nat} (h0 : r ≠ 0) (h : vl r 2 % 2 ≠ 1) : sqLo r 2 k = decide ((r / 2 ^ vl r 2) % 2 ^ (min 3 (k - vl r 2)) = 1) := by simp [sqLo, h0, h]
theorem squareModulo_any (n p : Int) (k : Nat) (w : World) (hp : 2 ≤ p) (hp2 : p ≤ 1000) (hk1 : 1 ≤ k) (hk2 : k ≤ 1000) (hM : p ^ k ≤ 1000000000) :
    Calls Try.prog 72 #[.int .i64 n, .int .i64 p, .int .i64 k] w fun e w' => e = .returned (.bool (sqLo (n % p ^ k) p k)) ∧ Below w.heap.size w w' := by
  have hq1 := pow_pos' (p := p) (by omega) k
  have T1 := fun W : World => Lib.hid (intPower_any p k W (by omega) (by omega) (by omega) (by rw [Int.toNat_natCast]; omega))
  rw [Int.toNat_natCast] at T1
  have T2 := fun W : World => Lib.hid (modulo_any n (p ^ k) W (by omega) (by omega))
  have hr1 : 0 ≤ n % p ^ k := Int.emod_nonneg _ (by omega)
  have hr2 : n % p ^ k < p ^ k := Int.emod_lt_of_pos _ (by omega)
  generalize hr : n % p ^ k = r at *
  clear hr
  by_cases h0 : r = 0
  · subst h0
    rw [sq_zero]
    clear hr1 hr2
    generalize p ^ k = q at *
    go_enter Try.func72, Try.ntmps72
    go_wp2_with (first | (go_at_call 41; (with_reducible refine (T1 _).out.mono ?_); rintro e w' ⟨rfl, rfl⟩) | (go_at_call 73; (with_reducible refine (T2 _).out.mono ?_); rintro e w' ⟨rfl, rfl⟩))
    go_ret
    refine ⟨rfl, ?_⟩
    repeat' first | (with_reducible first | apply zRf | assumption | apply zDn | apply zDr | apply zAl | apply zSt | refine zVi (by assumption) ?_ ?_) | go_size
  · have hv := vl_lt hp (by omega) hr2
    have hd := vl_div hp h0
    have T4 := fun W : World => Lib.hid (valuation_any r p W hp (by omega) h0 (by omega) (by omega))
    have hqv := pow_mono' (p := p) (by omega) (Nat.le_of_lt hv)
    have hqv1 := pow_pos' (p := p) (by omega) (vl r p)
    have T5 := fun W : World => Lib.hid (intPower_any p (vl r p) W (by omega) (by omega) (by omega) (by rw [Int.toNat_natCast]; omega))
    rw [Int.toNat_natCast] at T5
    have hu : r.tdiv (p ^ vl r p) = r / p ^ vl r p := Int.tdiv_eq_ediv_of_nonneg hr1
    have hu0 : 0 ≤ r / p ^ vl r p := Int.ediv_nonneg hr1 (by omega)
    have hu1 : r / p ^ vl r p ≤ r := Int.ediv_le_self _ hr1
    have h0' : (r == 0) = false := by simp [h0]
    have hvz : ((vl r p : Nat) : Int) < k := by omega
    have hv0 : (0 : Int) ≤ ((vl r p : Nat) : Int) := Int.natCast_nonneg _
    by_cases ho : vl r p % 2 = 1
    · rw [sq_odd h0 ho]
      have ho' : ((vl r p : Int) % 2 == 1) = true := by simp; omega
      clear hd hu hu0 hu1 h0 ho hv
      generalize p ^ vl r p = q2 at *
      generalize p ^ k = q at *
      generalize ((vl r p : Nat) : Int) = v at *
      go_enter Try.func72, Try.ntmps72
      go_wp2_with (first | (go_at_call 41; (with_reducible refine (T1 _).out.mono ?_); rintro e w' ⟨rfl, rfl⟩) | (go_at_call 73; (with_reducible refine (T2 _).out.mono ?_); rintro e w' ⟨rfl, rfl⟩) | (go_at_call 62; (with_reducible refine (T4 _).out.mono ?_); rintro e w' ⟨rfl, rfl⟩) | (go_at_call 41; (with_reducible refine (T5 _).out.mono ?_); rintro e w' ⟨rfl, rfl⟩))
      go_ret
      refine ⟨rfl, ?_⟩
      repeat' first | (with_reducible first | apply zRf | assumption | apply zDn | apply zDr | apply zAl | apply zSt | refine zVi (by assumption) ?_ ?_) | go_size
    · have ho' : ((vl r p : Int) % 2 == 1) = false := by simp; omega
      by_cases h2 : 2 < p
      · rw [sq_big h0 ho h2, ← sy1_sym, ← syI_one]
        have T6 := fun W : World => Lib.hid (symbol_any (r / p ^ vl r p) p W hp (by omega))
        clear hd hu h0 ho hv
        generalize p ^ vl r p = q2 at *
        generalize p ^ k = q at *
        generalize ((vl r p : Nat) : Int) = v at *
        generalize syI (r / q2) p = s at *
        have tok1 : True := trivial
        go_enter Try.func72, Try.ntmps72
        go_wp2_with (first | (go_at_call 41; (with_reducible refine (T1 _).out.mono ?_); rintro e w' ⟨rfl, rfl⟩) | (go_at_call 73; (with_reducible refine (T2 _).out.mono ?_); rintro e w' ⟨rfl, rfl⟩) | (go_at_call 62; (with_reducible refine (T4 _).out.mono ?_); rintro e w' ⟨rfl, rfl⟩) | (go_at_call 41; (with_reducible refine (T5 _).out.mono ?_); rintro e w' ⟨rfl, rfl⟩) | (have _t := tok1; go_at_call 79; (with_reducible refine (T6 _).out.mono ?_); rintro e w1 ⟨rfl, hb1⟩; clear tok1 _t))
        go_ret
        refine ⟨rfl, ?_⟩
        repeat' first | (with_reducible first | apply zRf | assumption | apply zDn | apply zDr | apply zAl | apply zSt | refine zVi (by assumption) ?_ ?_) | go_size
      · have hp' : p = 2 := by omega
        subst hp'
        rw [sq_two h0 ho]
        have hodd : r / (2 ^ vl r 2) % 2 = 1 := by have := hd.2; omega
        have hmin : (k - vl r 2 = 1 ∧ min 3 (k - vl r 2) = 1) ∨ (k - vl r 2 = 2 ∧ min 3 (k - vl r 2) = 2) ∨ (2 < k - vl r 2 ∧ min 3 (k - vl r 2) = 3) := by omega
        clear hd hu h0 ho
        rcases hmin with ⟨hm, e⟩ | ⟨hm, e⟩ | ⟨hm, e⟩
        · rw [e, show (decide (r / (2 ^ vl r 2) % 2 ^ 1 = 1)) = true by simp [hodd]]
          have hk' : (k : Int) - (vl r 2 : Nat) = 1 := by omega
          have hk'' : (k : Int) = (vl r 2 : Nat) + 1 := by omega
          clear e hm hv hodd
          generalize (2 : Int) ^ vl r 2 = q2 at *
          generalize (2 : Int) ^ k = q at *
          generalize ((vl r 2 : Nat) : Int) = v at *
          generalize (k : Int) = kk at *
          subst hk''
          go_enter Try.func72, Try.ntmps72
          go_wp2_with (first | (go_at_call 41; (with_reducible refine (T1 _).out.mono ?_); rintro e w' ⟨rfl, rfl⟩) | (go_at_call 73; (with_reducible refine (T2 _).out.mono ?_); rintro e w' ⟨rfl, rfl⟩) | (go_at_call 62; (with_reducible refine (T4 _).out.mono ?_); rintro e w' ⟨rfl, rfl⟩) | (go_at_call 41; (with_reducible refine (T5 _).out.mono ?_); rintro e w' ⟨rfl, rfl⟩))
          go_ret
          refine ⟨rfl, ?_⟩
          repeat' first | (with_reducible first | apply zRf | assumption | apply zDn | apply zDr | apply zAl | apply zSt | refine zVi (by assumption) ?_ ?_) | go_size
        · rw [e]
          have hk'' : (k : Int) = (vl r 2 : Nat) + 2 := by omega
          clear e hm hv hodd
          generalize (2 : Int) ^ vl r 2 = q2 at *
          generalize (2 : Int) ^ k = q at *
          generalize ((vl r 2 : Nat) : Int) = v at *
          generalize (k : Int) = kk at *
          subst hk''
          go_enter Try.func72, Try.ntmps72
          go_wp2_with (first | (go_at_call 41; (with_reducible refine (T1 _).out.mono ?_); rintro e w' ⟨rfl, rfl⟩) | (go_at_call 73; (with_reducible refine (T2 _).out.mono ?_); rintro e w' ⟨rfl, rfl⟩) | (go_at_call 62; (with_reducible refine (T4 _).out.mono ?_); rintro e w' ⟨rfl, rfl⟩) | (go_at_call 41; (with_reducible refine (T5 _).out.mono ?_); rintro e w' ⟨rfl, rfl⟩))
          go_ret
          refine ⟨ret_bool (by rw [Bool.eq_iff_iff]; simp), ?_⟩
          repeat' first | (with_reducible first | apply zRf | assumption | apply zDn | apply zDr | apply zAl | apply zSt | refine zVi (by assumption) ?_ ?_) | go_size
        · rw [e]
          obtain ⟨m, hm3, hkm⟩ : ∃ m : Int, 3 ≤ m ∧ (k : Int) = (vl r 2 : Nat) + m := ⟨(k : Int) - (vl r 2 : Nat), by omega, by omega⟩
          have hkk : (k : Int) ≤ 1000 := by omega
          have hm1 : (m == 1) = false := by simp; omega
          have hm2 : (m == 2) = false := by simp; omega
          clear e hm hv hodd
          generalize (2 : Int) ^ vl r 2 = q2 at *
          generalize (2 : Int) ^ k = q at *
          generalize ((vl r 2 : Nat) : Int) = v at *
          generalize (k : Int) = kk at *
          subst hkm
          have hs : v + m - v = m := by omega
          have hn1 : (v + m - v == 1) = false := by rw [hs]; exact hm1
          have hn2 : (v + m - v == 2) = false := by rw [hs]; exact hm2
          go_enter Try.func72, Try.ntmps72
          go_wp2_with (first | (go_at_call 41; (with_reducible refine (T1 _).out.mono ?_); rintro e w' ⟨rfl, rfl⟩) | (go_at_call 73; (with_reducible refine (T2 _).out.mono ?_); rintro e w' ⟨rfl, rfl⟩) | (go_at_call 62; (with_reducible refine (T4 _).out.mono ?_); rintro e w' ⟨rfl, rfl⟩) | (go_at_call 41; (with_reducible refine (T5 _).out.mono ?_); rintro e w' ⟨rfl, rfl⟩))
          go_ret
          refine ⟨ret_bool (by rw [Bool.eq_iff_iff]; simp), ?_⟩
          repeat' first | (with_reducible first | apply zRf | assumption | apply zDn | apply zDr | apply zAl | apply zSt | refine zVi (by assumption) ?_ ?_) | go_size
end Go.Proofs.Ytegiddpakocodaa
