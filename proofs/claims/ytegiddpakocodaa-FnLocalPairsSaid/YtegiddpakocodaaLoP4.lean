/- Plain words: how many pairs are possible, counted one by one. No program in sight. -/
import Derived.Test.YtegiddpakocodaaLoP3
namespace Go.Proofs.Ytegiddpakocodaa
open Go.RowKit
set_option linter.unusedVariables false
set_option linter.unusedSimpArgs false
/-- possible pairs with a number below x, counted -/
def cntP (D A C p : Int) (k x : Nat) : Nat := ((List.range x).filter fun i : Nat => poB D A C (i : Int) 1 p k).length + ((List.range x).filter fun i : Nat => decide ((i : Int) % p = 0) && poB D A C 1 (i : Int) p k).length
theorem cntP_step (D A C p : Int) (k x : Nat) : cntP D A C p k (x + 1) = cntP D A C p k x + (if poB D A C (x : Int) 1 p k = true then 1 else 0) + (if (decide ((x : Int) % p = 0) && poB D A C 1 (x : Int) p k) = true then 1 else 0) := by
  unfold cntP
  rw [List.range_succ, List.filter_append, List.filter_append, List.length_append, List.length_append]
  have h1 : ∀ (q : Nat → Bool), ([x].filter q).length = if q x = true then 1 else 0 := fun q => by
    cases h : q x <;> simp [h]
  rw [h1, h1]
  omega
theorem cntP_le (D A C p : Int) (k x : Nat) : cntP D A C p k x ≤ 2 * x := by
  unfold cntP
  have h1 := List.length_filter_le (fun i : Nat => poB D A C (i : Int) 1 p k) (List.range x)
  have h2 := List.length_filter_le (fun i : Nat => decide ((i : Int) % p = 0) && poB D A C 1 (i : Int) p k) (List.range x)
  rw [List.length_range] at h1 h2
  omega
theorem cntP_pl (D A C p : Int) (k : Nat) : cntP D A C p k (p ^ k).toNat = (pl D A C p k).length := by
  unfold cntP pl pl1 pl2 rg
  rw [List.length_append, List.length_map, List.length_map, List.filter_map, List.filter_map, List.length_map, List.length_map]
  rfl
end Go.Proofs.Ytegiddpakocodaa
