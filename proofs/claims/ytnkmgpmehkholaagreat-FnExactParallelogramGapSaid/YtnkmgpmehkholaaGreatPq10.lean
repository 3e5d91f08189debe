/- Lemmas and contracts of functions. No condition. -/
import Derived.Test.YtnkmgpmehkholaaGreatPq3
import Derived.Test.YtnkmgpmehkholaaGreatPq4
import Derived.Test.YtnkmgpmehkholaaGreatPq5
namespace Go.Proofs.YtnkmgpmehkholaaGreat
open Go.RowKit
set_option linter.unusedVariables false
set_option maxHeartbeats 4000000
set_option linter.unusedSimpArgs false

def PowRel (a k : Int) (i o : Value) : Prop := ∃ j : Nat, (j : Int) ≤ k ∧ i = .int .i64 j ∧ o = .int .i64 (a ^ j)
theorem pow_step {a k : Int} {j : Nat} {M : Int} (ha : 1 ≤ a) (hj : (j : Int) < k) (hM : a ^ k.toNat ≤ M) : 1 ≤ a ^ j ∧ a ^ j ≤ M ∧ a ^ j * a = a ^ (j + 1) ∧ a ^ (j + 1) ≤ M ∧ 1 ≤ a ^ (j + 1) :=
 ⟨pow_pos' ha j, by have := pow_mono' (p := a) ha (m := j) (n := k.toNat) (by omega); omega, (Int.pow_succ _ _).symm, by have := pow_mono' (p := a) ha (m := j + 1) (n := k.toNat) (by omega); omega, pow_pos' ha (j + 1)⟩
theorem intPower_any (a k : Int) (w : World) (ha : 1 ≤ a) (hk : 0 ≤ k) (hk2 : k ≤ 1000000) (hM : a ^ k.toNat ≤ 1000000000000000) :
  Calls Tryz.prog 94 #[.int .i64 a, .int .i64 k] w fun e w' => e = .returned (.int .i64 (a ^ k.toNat)) ∧ w = w' := by
 have HM := Lib.hid hM
 clear hM
 go_enter Tryz.func94, Tryz.ntmps94
 go_wp2
 go_loop [5, 7] (fun o i => PowRel a k i o) (fun _ i => (k - intOf i).toNat)
 case atStart => exact ⟨0, by omega, rfl, by simp⟩
 case round =>
  obtain ⟨j, hj, rfl, rfl⟩ := hrel
  by_cases hlt : (j : Int) < k
  ·have hs := pow_step ha hlt HM.out
   have HE := Lib.hid hs.2.2.1
   have hs1 := hs.1
   have hs2 := hs.2.1
   have hs3 := hs.2.2.2.1
   have hs4 := hs.2.2.2.2
   rw [← HE.out] at hs3 hs4
   clear hs
   generalize hq : a ^ j = q at *
   have HQ := Lib.hid hq
   clear hq
   go_wp2
   go_round
   case rel => exact ⟨j + 1, by omega, by go_num, by rw [HE.out]⟩
   case measure => simp [intOf]; omega
  ·have : (j : Int) = k := by omega
   subst this
   go_wp2
   go_ret
   exact ⟨by simp, rfl⟩
end Go.Proofs.YtnkmgpmehkholaaGreat
