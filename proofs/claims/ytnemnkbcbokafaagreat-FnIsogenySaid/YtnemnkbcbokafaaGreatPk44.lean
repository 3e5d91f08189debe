/- Lemmas and contracts of functions. No condition. -/
import Derived.Test.YtnemnkbcbokafaaGreatPk32
import Derived.Test.YtnemnkbcbokafaaGreatPk43
namespace Go.Proofs.YtnemnkbcbokafaaGreat
open Go.RowKit
set_option linter.unusedVariables false
set_option linter.unusedSimpArgs false
abbrev P3 := Int × Int × Int
/-- is there a point at x over e, and its second coordinate -/
noncomputable def hvOk (A B x e : Int) : Bool := decide (gcdI x e = 1) && (exR (evV A B x e)).2
noncomputable def hvY (A B x e : Int) : Int := (exR (evV A B x e)).1
noncomputable def pm (q : P3) : List P3 := if q.2.1 = 0 then [(q.1, 0, q.2.2)] else [(q.1, -q.2.1, q.2.2), q]
theorem pm_in {q z : P3} (h : z ∈ pm q) : z.1 = q.1 ∧ z.2.2 = q.2.2 := by
  unfold pm at h
  split at h
  · obtain rfl : z = _ := List.mem_singleton.1 h
    exact ⟨rfl, rfl⟩
  · rcases List.mem_cons.1 h with rfl | h
    · exact ⟨rfl, rfl⟩
    · obtain rfl : z = _ := List.mem_singleton.1 h
      exact ⟨rfl, rfl⟩
theorem pm_len (q : P3) : (pm q).length ≤ 2 := by unfold pm; split <;> simp
/-- the points at x over e are points of the curve -/
theorem pm_ok {A B x e : Int} (hx : -10000 ≤ x ∧ x ≤ 10000) (he : 1 ≤ e ∧ e ≤ 20) (h : hvOk A B x e = true) {z : P3} (hz : z ∈ pm (x, hvY A B x e, e)) : ptB A B z.1 z.2.1 z.2.2 = true := by
  unfold hvOk at h
  rw [Bool.and_eq_true, decide_eq_true_eq] at h
  obtain ⟨h1, h2⟩ := h
  have h3 : hvY A B x e * hvY A B x e = evV A B x e := by
    unfold hvY
    unfold exR at h2 ⊢
    split at h2
    · cases h2
    · rename_i hn
      rw [if_neg hn]
      split at h2
      · rename_i hs
        rw [if_pos hs]; exact hs
      · cases h2
  have h4 : ptB A B x (hvY A B x e) e = true := by
    unfold ptB
    rw [if_neg (by omega)]
    simp [inB, h1, h3]; omega
  have h5 : ptB A B x (-hvY A B x e) e = true := by
    have h3' : -hvY A B x e * -hvY A B x e = evV A B x e := by rw [Int.neg_mul_neg]; exact h3
    unfold ptB
    rw [if_neg (by omega)]
    generalize -hvY A B x e = y at *
    simp [inB, h1, h3']; omega
  unfold pm at hz
  split at hz
  · rename_i h0
    obtain rfl : z = _ := List.mem_singleton.1 hz
    simp only at h0
    rw [h0] at h4; exact h4
  · rcases List.mem_cons.1 hz with rfl | hz
    · exact h5
    · obtain rfl : z = _ := List.mem_singleton.1 hz
      exact h4
end Go.Proofs.YtnemnkbcbokafaaGreat
