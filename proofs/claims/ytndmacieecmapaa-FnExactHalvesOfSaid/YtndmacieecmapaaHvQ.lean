/- One step of the program's search for halves, in plain words. -/
import Derived.Test.YtndmacieecmapaaHv2
namespace Go.Proofs.Ytndmacieecmapaa
open Go.RowKit
set_option linter.unusedVariables false
set_option linter.unusedSimpArgs false
/-- what has been put in after t of the two tries -/
noncomputable def pmT (A : Int) (p q : P3) (t : Nat) : List P3 := if t = 0 then [] else if t = 1 then [(q.1, -q.2.1, q.2.2)].filter (kp A p) else pmK A p q
def pmY (y : Int) (t : Nat) : Int := if t = 0 then -y else y
theorem pmT_len (A : Int) (p q : P3) (t : Nat) : (pmT A p q t).length ≤ 2 := by
  unfold pmT
  split
  · simp
  · split
    · have := List.length_filter_le (kp A p) [(q.1, -q.2.1, q.2.2)]; simp at this; omega
    · have := List.length_filter_le (kp A p) (pm q); have := pm_len q; unfold pmK; omega
/-- the last one of a list, and whether it is r -/
def lastIs (l : List P3) (r : P3) : Prop := 0 < l.length ∧ l[l.length - 1]?.getD (0, 0, 0) = r
theorem pm_step {A x y e : Int} {p : P3} {l : List P3} (hb : ∀ z ∈ l, ¬ (z.1 = x ∧ z.2.2 = e)) {t : Nat} (ht : t < 2) :
    (y = 0 → lastIs (l ++ pmT A p (x, y, e) t) (x, pmY y t, e) → l ++ pmT A p (x, y, e) (t + 1) = l ++ pmT A p (x, y, e) t) ∧
    (¬ (y = 0 ∧ lastIs (l ++ pmT A p (x, y, e) t) (x, pmY y t, e)) → l ++ pmT A p (x, y, e) (t + 1) = (l ++ pmT A p (x, y, e) t) ++ if kp A p (x, pmY y t, e) = true then [(x, pmY y t, e)] else []) := by
  have hlast : ∀ v, ¬ lastIs l (x, v, e) := fun v h => by
    have h1 := h.1
    have h2 := h.2
    rw [List.getElem?_eq_getElem (by omega), Option.getD_some] at h2
    exact hb _ (List.getElem_mem (show l.length - 1 < l.length by omega)) (by rw [h2]; exact ⟨rfl, rfl⟩)
  rcases (show t = 0 ∨ t = 1 by omega) with rfl | rfl
  · have h0 : pmT A p (x, y, e) 0 = [] := rfl
    have h1 : pmT A p (x, y, e) (0 + 1) = if kp A p (x, -y, e) = true then [(x, -y, e)] else [] := by
      show [(x, -y, e)].filter (kp A p) = _
      by_cases h : kp A p (x, -y, e) = true <;> simp [h]
    have hy : pmY y 0 = -y := rfl
    rw [h0, h1, hy, List.append_nil]
    exact ⟨fun _ h => (hlast _ h).elim, fun _ => rfl⟩
  · have h1 : pmT A p (x, y, e) 1 = if kp A p (x, -y, e) = true then [(x, -y, e)] else [] := by
      show [(x, -y, e)].filter (kp A p) = _
      by_cases h : kp A p (x, -y, e) = true <;> simp [h]
    have h2 : pmT A p (x, y, e) (1 + 1) = pmK A p (x, y, e) := rfl
    have hy : pmY y 1 = y := rfl
    rw [h1, h2, hy]
    unfold pmK pm
    by_cases h0 : y = 0
    · subst h0
      simp only [if_true, Int.neg_zero]
      by_cases hk : kp A p (x, 0, e) = true
      · have hl : lastIs (l ++ [(x, 0, e)]) (x, 0, e) := ⟨by simp, by simp⟩
        simp only [hk, if_true, List.filter_cons, List.filter_nil]
        exact ⟨fun _ _ => trivial, fun h => (h ⟨trivial, hl⟩).elim⟩
      · simp only [hk, List.filter_cons, List.filter_nil, List.append_nil]
        simp
    · simp only [h0, if_false, false_and, not_false_eq_true, false_implies, true_implies, true_and]
      by_cases hk : kp A p (x, -y, e) = true <;> by_cases hk2 : kp A p (x, y, e) = true <;> simp [hk, hk2]
theorem take_flatMap (f : P3 → List P3) (l : List P3) {i : Nat} (h : i < l.length) : (l.take (i + 1)).flatMap f = (l.take i).flatMap f ++ f (l[i]?.getD (0, 0, 0)) := by
  rw [List.take_add_one, List.flatMap_append, List.getElem?_eq_getElem h]
  simp
end Go.Proofs.Ytndmacieecmapaa
