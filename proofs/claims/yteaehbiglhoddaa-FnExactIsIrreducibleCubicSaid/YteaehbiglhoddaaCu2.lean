/- Signs of cubics at fractions: contracts of both sides, and the walk of the law. -/
import Derived.Test.YteaehbiglhoddaaCu
import Derived.Test.YteaehbiglhoddaaDrawn
import Derived.Test.YteaehbiglhoddaaToL
namespace Go.Proofs.Yteaehbiglhoddaa
open Go.RowKit
set_option linter.unusedVariables false
set_option maxHeartbeats 4000000
set_option maxRecDepth 20000
set_option linter.unusedSimpArgs false
def cfB (a b c d n e : Int) : Bool := cuB a b c d && (frB n e && (inB n (-10000) 10000 && decide (e ≤ 1000)))
def cfV (a b c d n e : Int) : Int := if cfB a b c d n e = true then sgnV (cuV a b c d n e) else 0
theorem cfB_cases (a b c d n e : Int) : (cuB a b c d = false ∧ cfB a b c d n e = false ∧ cfV a b c d n e = 0) ∨ (cuB a b c d = true ∧ ((frB n e = false ∧ cfB a b c d n e = false ∧ cfV a b c d n e = 0) ∨ (frB n e = true ∧
    ((inB n (-10000) 10000 = false ∧ cfB a b c d n e = false ∧ cfV a b c d n e = 0) ∨ (inB n (-10000) 10000 = true ∧ ((1000 < e ∧ cfB a b c d n e = false ∧ cfV a b c d n e = 0) ∨ (e ≤ 1000 ∧ cfB a b c d n e = true ∧ cfV a b c d n e = sgnV (cuV a b c d n e)))))))) := by
  cases h1 : cuB a b c d
  · left; simp [cfB, cfV, h1]
  · right; refine ⟨rfl, ?_⟩
    cases h2 : frB n e
    · left; simp [cfB, cfV, h1, h2]
    · right; refine ⟨rfl, ?_⟩
      cases h3 : inB n (-10000) 10000
      · left; simp [cfB, cfV, h1, h2, h3]
      · right; refine ⟨rfl, ?_⟩
        by_cases h4 : e ≤ 1000
        · right; simp [cfB, cfV, h1, h2, h3, h4]
        · left; refine ⟨by omega, ?_⟩; simp [cfB, cfV, h1, h2, h3, h4]
theorem cuAll (a b c d : Int) (h : a ≠ 0) : ([a, b, c, d].all fun z => inB z (-1000) 1000) = cuB a b c d := by simp [cuB, h]
theorem l1All_four (blk c : Nat) (a1 a2 a3 a4 lo hi : Int) (w : World) (h1 : w.cell? ⟨blk, 0, none⟩ = some (.int .i64 a1)) (h2 : w.cell? ⟨blk, 1, none⟩ = some (.int .i64 a2)) (h3 : w.cell? ⟨blk, 2, none⟩ = some (.int .i64 a3)) (h4 : w.cell? ⟨blk, 3, none⟩ = some (.int .i64 a4)) :
    Calls Try.prog 27 #[.slice (some ⟨blk, 0, none⟩) 4 c, .int .i64 lo, .int .i64 hi] w fun e w' => e = .returned (.bool ([a1, a2, a3, a4].all fun z => inB z lo hi)) ∧ w = w' :=
  l1All_any blk 0 c [a1, a2, a3, a4] lo hi w (by simp) (by
    intro j hj
    rw [Nat.zero_add]
    match j, hj with
    | 0, _ => exact h1
    | 1, _ => exact h2
    | 2, _ => exact h3
    | 3, _ => exact h4)
theorem cuGood_any (a b c d : Int) (w : World) : Calls Try.prog 17 #[.agg #[.int .i64 a, .int .i64 b, .int .i64 c, .int .i64 d]] w fun e w' => e = .returned (.bool (cuB a b c d)) ∧ Below w.heap.size w w' := by
  by_cases h : a = 0
  · rw [show cuB a b c d = false by simp [cuB, h]]
    subst h
    go_enter Try.func17, Try.ntmps17
    go_wp2_with fail
    go_ret
    refine ⟨rfl, ?_⟩
    repeat' first | (with_reducible first | apply zRf | assumption | apply zDn | apply zDr | apply zAl | apply zSt | refine zVi (by assumption) ?_ ?_) | go_size
  · have HA := Lib.hid (cuAll a b c d h)
    have h' : (a != 0) = true := by simp [h]
    go_enter Try.func17, Try.ntmps17
    go_wp2_with (first | (go_at_call 27; refine (l1All_four _ _ a b c d _ _ _ (by simp [go_sem]) (by simp [go_sem]) (by simp [go_sem]) (by simp [go_sem])).mono ?_; rintro e w' ⟨rfl, rfl⟩))
    go_ret
    refine ⟨ret_bool (by have := HA.out; simpa using this), ?_⟩
    repeat' first | (with_reducible first | apply zRf | assumption | apply zDn | apply zDr | apply zAl | apply zSt | refine zVi (by assumption) ?_ ?_) | go_size
theorem cmpInt_any (x y : Int) (w : World) : Calls Try.prog 37 #[.int .i64 x, .int .i64 y] w fun e w' => e = .returned (.int .i64 (Lib.compareInt x y)) ∧ w = w' := by
  have e1 : (x != x) = false := by simp
  have e2 : (y != y) = false := by simp
  rcases Int.lt_trichotomy x y with h | h | h
  · rw [show Lib.compareInt x y = -1 by simp [Lib.compareInt, h]]
    go_enter Try.func37, Try.ntmps37
    go_wp2
    go_ret
    exact ⟨rfl, rfl⟩
  · subst h
    rw [show Lib.compareInt x x = 0 by simp [Lib.compareInt]]
    go_enter Try.func37, Try.ntmps37
    go_wp2
    go_ret
    exact ⟨rfl, rfl⟩
  · rw [show Lib.compareInt x y = 1 by simp [Lib.compareInt]; omega]
    go_enter Try.func37, Try.ntmps37
    go_wp2
    go_ret
    exact ⟨rfl, rfl⟩
end Go.Proofs.Yteaehbiglhoddaa
