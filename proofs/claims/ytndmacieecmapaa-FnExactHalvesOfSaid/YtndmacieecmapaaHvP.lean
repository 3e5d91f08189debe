/- The points whose double is a given one: plain words for the lists that both texts make. No program in sight. -/
import Derived.Test.YtndmacieecmapaaPtV
import Derived.Test.YtndmacieecmapaaPtY
namespace Go.Proofs.Ytndmacieecmapaa
open Go.RowKit
set_option linter.unusedVariables false
set_option linter.unusedSimpArgs false
abbrev P3 := Int × Int × Int
/-- is there a point at x over e, and its second coordinate -/
noncomputable def hvOk (A B x e : Int) : Bool := decide (gcdI x e = 1) && (exR (evV A B x e)).2
noncomputable def hvY (A B x e : Int) : Int := (exR (evV A B x e)).1
noncomputable def pm (q : P3) : List P3 := if q.2.1 = 0 then [(q.1, 0, q.2.2)] else [(q.1, -q.2.1, q.2.2), q]
noncomputable def hvQ (A B x e : Int) : List P3 := if hvOk A B x e = true then pm (x, hvY A B x e, e) else []
/-- is p twice q -/
noncomputable def kp (A : Int) (p q : P3) : Bool := decide (ptS A q.1 q.2.1 q.2.2 q.1 q.2.1 q.2.2 = (p.1, p.2.1, p.2.2, true))
noncomputable def hvX (A B : Int) (m : Nat) (e : Int) (p : P3) : Nat → List P3
  | 0 => []
  | k + 1 => hvX A B m e p k ++ (hvQ A B (-(m : Int) + k) e).filter (kp A p)
noncomputable def hvE (A B : Int) (m : Nat) (p : P3) : Nat → List P3
  | 0 => []
  | k + 1 => hvE A B m p k ++ hvX A B m ((k : Int) + 1) p (2 * m + 1)
noncomputable def hvW (A B : Int) (m : Nat) (e : Int) : Nat → List P3
  | 0 => []
  | k + 1 => hvW A B m e k ++ if hvOk A B (-(m : Int) + k) e = true then [(-(m : Int) + k, hvY A B (-(m : Int) + k) e, e)] else []
noncomputable def pmK (A : Int) (p q : P3) : List P3 := (pm q).filter (kp A p)
theorem hvX_eq (A B : Int) (m : Nat) (e : Int) (p : P3) : ∀ k, hvX A B m e p k = (hvW A B m e k).flatMap (pmK A p)
  | 0 => rfl
  | k + 1 => by
    rw [hvX, hvW, hvX_eq A B m e p k, List.flatMap_append]
    congr 1
    unfold hvQ
    split
    · simp [pmK]
    · simp
theorem hvW_in {A B : Int} {m : Nat} {e : Int} {q : P3} : ∀ {k : Nat}, q ∈ hvW A B m e k → q.2.2 = e ∧ -(m : Int) ≤ q.1 ∧ q.1 < -(m : Int) + k ∧ hvOk A B q.1 e = true ∧ q.2.1 = hvY A B q.1 e
  | k + 1, h => by
    unfold hvW at h
    rcases List.mem_append.1 h with h | h
    · obtain ⟨h1, h2, h3, h4, h5⟩ := hvW_in (k := k) h
      exact ⟨h1, h2, by omega, h4, h5⟩
    · split at h
      · rename_i hk
        obtain rfl : q = _ := List.mem_singleton.1 h
        exact ⟨rfl, by simp only; omega, by simp only; omega, hk, rfl⟩
      · cases h
theorem hvW_pw (A B : Int) (m : Nat) (e : Int) : ∀ k, (hvW A B m e k).Pairwise fun a b => a.1 < b.1
  | 0 => by simp [hvW]
  | k + 1 => by
    unfold hvW
    rw [List.pairwise_append]
    refine ⟨hvW_pw A B m e k, by split <;> simp, fun a ha b hb => ?_⟩
    have h1 := (hvW_in ha).2.2.1
    split at hb
    · obtain rfl : b = _ := List.mem_singleton.1 hb
      exact h1
    · cases hb
theorem pm_in {q z : P3} (h : z ∈ pm q) : z.1 = q.1 ∧ z.2.2 = q.2.2 := by
  unfold pm at h
  split at h
  · obtain rfl : z = _ := List.mem_singleton.1 h
    exact ⟨rfl, rfl⟩
  · rcases List.mem_cons.1 h with rfl | h
    · exact ⟨rfl, rfl⟩
    · obtain rfl : z = _ := List.mem_singleton.1 h
      exact ⟨rfl, rfl⟩
theorem hvX_in {A B : Int} {m : Nat} {e : Int} {p q : P3} {k : Nat} (h : q ∈ hvX A B m e p k) : q.2.2 = e := by
  rw [hvX_eq, List.mem_flatMap] at h
  obtain ⟨z, h1, h2⟩ := h
  have h3 := (pm_in (List.mem_filter.1 h2).1).2
  rw [h3, (hvW_in h1).1]
theorem hvE_in {A B : Int} {m : Nat} {p q : P3} : ∀ {k : Nat}, q ∈ hvE A B m p k → q.2.2 ≤ k
  | k + 1, h => by
    unfold hvE at h
    rcases List.mem_append.1 h with h | h
    · have := hvE_in (k := k) h; omega
    · have := hvX_in h; omega
/-- what has been found before point q of the list at e: none of them is q -/
theorem hv_before {A B : Int} {m : Nat} {p : P3} {k i : Nat} (hi : i < (hvW A B m ((k : Int) + 1) (2 * m + 1)).length) {z : P3} (h : z ∈ hvE A B m p k ++ ((hvW A B m ((k : Int) + 1) (2 * m + 1)).take i).flatMap (pmK A p)) :
    ¬ (z.1 = ((hvW A B m ((k : Int) + 1) (2 * m + 1))[i]?.getD (0, 0, 0)).1 ∧ z.2.2 = ((hvW A B m ((k : Int) + 1) (2 * m + 1))[i]?.getD (0, 0, 0)).2.2) := by
  rw [List.getElem?_eq_getElem hi, Option.getD_some]
  rintro ⟨h1, h2⟩
  have hq := hvW_in (List.getElem_mem hi)
  rcases List.mem_append.1 h with h | h
  · have := hvE_in h; omega
  · rw [List.mem_flatMap] at h
    obtain ⟨y, h3, h4⟩ := h
    have h5 := (pm_in (List.mem_filter.1 h4).1).1
    obtain ⟨j, hj, e⟩ := List.getElem_of_mem h3
    rw [List.length_take] at hj
    rw [List.getElem_take] at e
    have h6 := List.pairwise_iff_getElem.1 (hvW_pw A B m ((k : Int) + 1) (2 * m + 1)) j i (by omega) hi (by omega)
    rw [e] at h6; omega
theorem hvW_len (A B : Int) (m : Nat) (e : Int) : ∀ k, (hvW A B m e k).length ≤ k
  | 0 => by simp [hvW]
  | k + 1 => by
    have := hvW_len A B m e k
    unfold hvW
    rw [List.length_append]
    split <;> simp <;> omega
theorem pm_len (q : P3) : (pm q).length ≤ 2 := by unfold pm; split <;> simp
theorem hvQ_len (A B x e : Int) : (hvQ A B x e).length ≤ 2 := by
  unfold hvQ; split
  · exact pm_len _
  · simp
theorem hvX_len (A B : Int) (m : Nat) (e : Int) (p : P3) : ∀ k, (hvX A B m e p k).length ≤ 2 * k
  | 0 => by simp [hvX]
  | k + 1 => by
    have h1 := hvX_len A B m e p k
    have h2 := hvQ_len A B (-(m : Int) + k) e
    have h3 := List.length_filter_le (kp A p) (hvQ A B (-(m : Int) + k) e)
    unfold hvX; rw [List.length_append]; omega
theorem hvE_len (A B : Int) (m : Nat) (p : P3) : ∀ k, (hvE A B m p k).length ≤ k * (4 * m + 2)
  | 0 => by simp [hvE]
  | k + 1 => by
    have h1 := hvE_len A B m p k
    have h2 := hvX_len A B m ((k : Int) + 1) p (2 * m + 1)
    have h3 : (k + 1) * (4 * m + 2) = k * (4 * m + 2) + (4 * m + 2) := by rw [Nat.add_mul, Nat.one_mul]
    unfold hvE; rw [List.length_append]; omega
/-- the points at x over e are points of the curve -/
theorem pm_ok {A B x e : Int} (hx : -10000 ≤ x ∧ x ≤ 10000) (he : 1 ≤ e ∧ e ≤ 20) (h : hvOk A B x e = true) {z : P3} (hz : z ∈ pm (x, hvY A B x e, e)) : ptB A B z.1 z.2.1 z.2.2 = true := by
  unfold hvOk at h
  rw [Bool.and_eq_true, decide_eq_true_eq] at h
  obtain ⟨h1, h2⟩ := h
  have h3 : hvY A B x e * hvY A B x e = evV A B x e := by
    unfold hvY
    unfold exR at h2 ⊢
    split at h2
    · cases h2
    · rename_i hn
      rw [if_neg hn]
      split at h2
      · rename_i hs
        rw [if_pos hs]; exact hs
      · cases h2
  have h4 : ptB A B x (hvY A B x e) e = true := by
    unfold ptB
    rw [if_neg (by omega)]
    simp [inB, h1, h3]; omega
  have h5 : ptB A B x (-hvY A B x e) e = true := by
    have h3' : -hvY A B x e * -hvY A B x e = evV A B x e := by rw [Int.neg_mul_neg]; exact h3
    unfold ptB
    rw [if_neg (by omega)]
    generalize -hvY A B x e = y at *
    simp [inB, h1, h3']; omega
  unfold pm at hz
  split at hz
  · rename_i h0
    obtain rfl : z = _ := List.mem_singleton.1 hz
    simp only at h0
    rw [h0] at h4; exact h4
  · rcases List.mem_cons.1 hz with rfl | hz
    · exact h5
    · obtain rfl : z = _ := List.mem_singleton.1 hz
      exact h4
end Go.Proofs.Ytndmacieecmapaa
