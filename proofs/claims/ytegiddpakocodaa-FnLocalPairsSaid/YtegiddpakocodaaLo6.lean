/- Pairs and depths of the reference; products of residues. -/
import Derived.Test.YtegiddpakocodaaLo5
namespace Go.Proofs.Ytegiddpakocodaa
open Go.RowKit
set_option linter.unusedVariables false
set_option maxHeartbeats 4000000
set_option linter.unusedSimpArgs false
theorem loPair_any (m e p : Int) (k : Nat) (w : World) (hp : 2 ≤ p) (hp2 : p ≤ 1000) (hk : k ≤ 1000) (hM : p ^ k ≤ 1000000000) : Calls Try.prog 43 #[.int .i64 m, .int .i64 e, .int .i64 p, .int .i64 k] w fun r w' => r = .returned (.bool (paB m e p (p ^ k))) ∧ w = w' := by
  have hn := pow_pos' (p := p) (by omega) k
  have T0 := fun W : World => Lib.hid (loPower_any p k W (by omega) (by omega) (by omega) (by rw [Int.toNat_natCast]; omega))
  rw [Int.toNat_natCast] at T0
  generalize p ^ k = n at *
  generalize (k : Int) = kk at *
  have T1 := fun W : World => Lib.hid (l1In_any m 0 (n - 1) W)
  have T2 := fun W : World => Lib.hid (l1In_any e 0 (n - 1) W)
  rcases paB_cases m e p n with ⟨h1, h2, h⟩ | ⟨⟨h1, h2⟩ | h1, ⟨h3, h⟩ | ⟨h3, ⟨h4, h⟩ | ⟨h4, h⟩⟩⟩
  all_goals
    rw [h]
    clear h
    try rw [h2] at T1
    try rw [h4] at T2
    try (have hb := inB_iff.1 h4)
    try (have he := pa_even hp hb.1)
    try (have h1' : (e == 1) = false := by simp [h1])
    try (have h3' : (m == 1) = false := by simp [h3])
    try clear h2
    try clear h4
    try subst h1
    try subst h3
    go_enter Try.func43, Try.ntmps43
    go_wp2_with (first | (go_at_call 38; (with_reducible refine (T0 _).out.mono ?_); rintro e w' ⟨rfl, rfl⟩) | (go_at_call 46; (with_reducible refine (T1 _).out.mono ?_); rintro e w' ⟨rfl, rfl⟩) | (go_at_call 46; (with_reducible refine (T2 _).out.mono ?_); rintro e w' ⟨rfl, rfl⟩))
    go_ret
    exact ⟨ret_bool (by first | rfl | (rw [Bool.eq_iff_iff]; simp; done) | (rw [Bool.eq_iff_iff]; simp [Int.emod_eq_of_lt (show (0 : Int) ≤ 1 by omega) (show (1 : Int) < p by omega)])), rfl⟩
def deB (p k : Int) : Bool := mdPB p && inB k 1 (dp p)
theorem loDepthOf_any (p k : Int) (w : World) : Calls Try.prog 37 #[.int .i64 p, .int .i64 k] w fun r w' => r = .returned (.bool (deB p k)) ∧ w = w' := by
  have T0 := fun W : World => Lib.hid (mdPrime_any p W)
  cases h : mdPB p
  · rw [h] at T0
    rw [show deB p k = false by simp [deB, h]]
    clear h
    go_enter Try.func37, Try.ntmps37
    go_wp2_with (go_at_call 29; (with_reducible refine (T0 _).out.mono ?_); rintro e w' ⟨rfl, rfl⟩)
    go_ret
    exact ⟨rfl, rfl⟩
  · have hb : 2 ≤ p ∧ p ≤ 997 := by simp [mdPB, inB] at h; omega
    rw [h] at T0
    rw [show deB p k = inB k 1 (dp p) by simp [deB, h]]
    have T1 := fun W : World => Lib.hid (loDepth_any p W hb.1 (by omega))
    have T2 := fun W : World => Lib.hid (l1In_any k 1 (dp p) W)
    clear h
    generalize inB k 1 (dp p) = x at *
    generalize ((dp p : Nat) : Int) = d at *
    go_enter Try.func37, Try.ntmps37
    go_wp2_with (first | (go_at_call 29; (with_reducible refine (T0 _).out.mono ?_); rintro e w' ⟨rfl, rfl⟩) | (go_at_call 51; (with_reducible refine (T1 _).out.mono ?_); rintro e w' ⟨rfl, rfl⟩) | (go_at_call 46; (with_reducible refine (T2 _).out.mono ?_); rintro e w' ⟨rfl, rfl⟩))
    go_ret
    exact ⟨rfl, rfl⟩
end Go.Proofs.Ytegiddpakocodaa
