/- The pairs that the program looks at next: the iterator's value. -/
import Derived.Test.YtegiddpakocodaaCp2
namespace Go.Proofs.Ytegiddpakocodaa
open Go.RowKit
set_option linter.unusedVariables false
set_option maxHeartbeats 4000000
set_option maxRecDepth 20000
set_option linter.unusedSimpArgs false
theorem candidates_any (D A C p : Int) (k : Nat) (a : Option Addr) (n c : Nat) (w : World) (hp : 2 ≤ p) (hp2 : p ≤ 1000) (hk : k ≤ 1000) (hM : p ^ k ≤ 1000000000) :
    Calls Try.prog 69 #[.agg #[.int .i64 D, .int .i64 A, .int .i64 C], .slice a n c, .int .i64 p, .int .i64 (k + 1 : Nat)] w fun r w' =>
      r = .returned (.func (.func 77) #[] #[.pointer (some ⟨w.heap.size + 1 + 1, 0, none⟩), .pointer (some ⟨w.heap.size + 1, 0, none⟩), .pointer (some ⟨w.heap.size + 1 + 1 + 1, 0, none⟩)]) ∧
      w' = (((w.alloc (.cells #[.int .i64 D, .int .i64 A, .int .i64 C] 24 (0, 0))).alloc (.cells #[.slice a n c] 63 (0, 0))).alloc (.cells #[.int .i64 p] 3 (0, 0))).alloc (.cells #[.int .i64 (p ^ k)] 3 (0, 0)) := by
  have T1 := fun W : World => Lib.hid (intPower_any p k W (by omega) (by omega) (by omega) (by rw [Int.toNat_natCast]; omega))
  rw [Int.toNat_natCast] at T1
  have hk1 : ((k + 1 : Nat) : Int) - 1 = k := by omega
  generalize p ^ k = M at *
  go_enter Try.func69, Try.ntmps69
  go_wp2_with (first | (go_at_call 41; (with_reducible refine ((T1 _).out).mono ?_); rintro e w' ⟨rfl, rfl⟩))
  go_ret
  exact ⟨rfl, rfl⟩
end Go.Proofs.Ytegiddpakocodaa
