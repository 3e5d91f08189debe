/- Lemmas and contracts of functions. No condition. -/
import Derived.Test.YtbnglnbcfabmgaaPk38
namespace Go.Proofs.Ytbnglnbcfabmgaa
open Go.RowKit
set_option linter.unusedVariables false
set_option maxHeartbeats 1000000
set_option maxRecDepth 20000
/-- the order: f multiples more, behind the k-th -/
noncomputable def orF (A x y e : Int) : Nat → Nat → Int × Bool
  | 0, _ => (0, false)
  | f + 1, k => if (ptM A x y e (k + 1)).2.2.2 = true then (if (ptM A x y e (k + 1)).2.2.1 = 0 then ((k : Int) + 1, true) else orF A x y e f (k + 1)) else (0, false)
noncomputable def orV (A x y e : Int) : Int × Bool := orF A x y e 12 0
/-- the order is told -/
noncomputable def orB (A x y e : Int) : Bool := (orV A x y e).2
theorem orF_told {A x y e : Int} : ∀ (f k : Nat), (orF A x y e f k).2 = true → (∀ j, 1 ≤ j → j < k + 1 → (ptM A x y e j).2.2.2 = true ∧ (ptM A x y e j).2.2.1 ≠ 0) → ∃ n, n ≤ k + f ∧ OrdT A x y e n
  | 0, k, h, _ => by simp [orF] at h
  | f + 1, k, h, hj => by
    unfold orF at h
    by_cases h1 : (ptM A x y e (k + 1)).2.2.2 = true
    · rw [if_pos h1] at h
      by_cases h2 : (ptM A x y e (k + 1)).2.2.1 = 0
      · exact ⟨k + 1, by omega, by omega, fun j a b => hj j a b, h1, h2⟩
      · rw [if_neg h2] at h
        obtain ⟨n, hn, ho⟩ := orF_told f (k + 1) h (fun j a b => by
          by_cases e : j = k + 1
          · subst e; exact ⟨h1, h2⟩
          · exact hj j a (by omega))
        exact ⟨n, by omega, ho⟩
    · rw [if_neg h1] at h; simp at h
theorem orB_told {A x y e : Int} (h : orB A x y e = true) : ∃ n, n ≤ 12 ∧ OrdT A x y e n := by
  obtain ⟨n, hn, ho⟩ := orF_told 12 0 h (fun j a b => by omega)
  exact ⟨n, by omega, ho⟩
/-- the order of infinity is told -/
theorem orB_zero (A : Int) : orB A 0 0 0 = true := by
  have : ptM A 0 0 0 1 = (0, 0, 0, true) := by simp [ptM, ptS]
  unfold orB orV orF
  rw [if_pos (by rw [this]), if_pos (by rw [this])]
/-- a candidate for a torsion point -/
def caB (A B x y e : Int) : Bool := decide (e = 1) && decide (-3000 ≤ x ∧ x ≤ 3000) && decide (y * y = evV A B x 1) && (decide (y = 0) || decide ((coV A B).tmod (y * y) = 0))
/-- where the order is told, the point is infinity or a candidate -/
theorem told_cand {A B x y e : Int} (hc : cvB A B = true) (hp : ptB A B x y e = true) (h : orB A x y e = true) : (x = 0 ∧ y = 0 ∧ e = 0) ∨ caB A B x y e = true := by
  obtain ⟨n, hn, ho⟩ := orB_told h
  have hb := cvB_bd hc
  rcases pt_cases hb.1 hb.2.1 hp with h0 | ⟨he, hx, _, hg, hcv⟩
  · exact Or.inl h0
  · right
    have hd : 4 * A * A * A + 27 * B * B ≠ 0 := by have := hb.2.2; unfold coV at this; exact this
    obtain ⟨rfl, h1, h2⟩ := ord_cand hb.1 hb.2.1 hp hd (by omega) ho (by omega)
    unfold caB
    simp only [Bool.and_eq_true, Bool.or_eq_true, decide_eq_true_eq]
    refine ⟨⟨⟨trivial, h1⟩, hcv⟩, ?_⟩
    rcases h2 with h2 | h2
    · exact Or.inl h2
    · right
      have : coV A B = 4 * A * A * A + 27 * B * B := rfl
      rw [this]
      exact Int.tmod_eq_zero_of_dvd h2
end Go.Proofs.Ytbnglnbcfabmgaa
