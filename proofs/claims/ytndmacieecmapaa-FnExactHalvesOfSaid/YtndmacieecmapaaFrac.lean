/- Contracts: lowest terms, floors, the order of fractions. -/
import Derived.Test.YtndmacieecmapaaNum
namespace Go.Proofs.Ytndmacieecmapaa
open Go.RowKit
set_option linter.unusedVariables false
set_option maxHeartbeats 4000000
set_option linter.unusedSimpArgs false

theorem floorOf_any (a b : Int) (w : World) (hb : 0 < b) (h1 : -9223372036854775000 ≤ a) (h2 : a ≤ 9223372036854775000) : Calls Try.prog 48 #[.int .i64 a, .int .i64 b] w fun e w' => e = .returned (.int .i64 (down a b)) ∧ w = w' := by
  have hq := tdiv_bd a b
  have hd := down_of a b hb
  have hne : b ≠ 0 := by omega
  go_enter Try.func48, Try.ntmps48
  go_wp2
  · have h : a.tmod b < 0 := by assumption
    rw [if_pos h] at hd
    go_ret
    exact ⟨ret_int hd, rfl⟩
  · have h : 0 ≤ a.tmod b := by assumption
    rw [if_neg (by omega)] at hd
    go_ret
    exact ⟨ret_int hd, rfl⟩
end Go.Proofs.Ytndmacieecmapaa
