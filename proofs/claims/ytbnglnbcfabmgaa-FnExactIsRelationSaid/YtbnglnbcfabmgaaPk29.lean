/- Lemmas and contracts of functions. No condition. -/
import Derived.Test.YtbnglnbcfabmgaaPk27
namespace Go.Proofs.Ytbnglnbcfabmgaa
open Go.RowKit
set_option linter.unusedVariables false
set_option maxHeartbeats 1000000
set_option maxRecDepth 20000
set_option linter.unusedSimpArgs false
abbrev P4 := Int × Int × Int × Bool
theorem ptB_mk {A B x y e : Int} (he : 1 ≤ e ∧ e ≤ 20) (hx : -10000 ≤ x ∧ x ≤ 10000) (hg : Int.gcd x e = 1) (hc : y*y = evV A B x e) (hA : -1000 ≤ A ∧ A ≤ 1000) (hB : -10000 ≤ B ∧ B ≤ 10000) : ptB A B x y e = true := by
  have hv := evV_bd hA hB hx (e := e) (by omega)
  have hy := root_bd hc (by omega)
  unfold ptB
  rw [if_neg (by omega)]
  simp only [Bool.and_eq_true, decide_eq_true_eq]
  refine ⟨inB_iff.2 hx, inB_iff.2 he, by unfold gcdI; omega, hc⟩
theorem ptB_zero (A B : Int) : ptB A B 0 0 0 = true := by simp [ptB]
theorem ptB_neg {A B x y e : Int} (h : ptB A B x y e = true) : ptB A B x (-y) e = true := by
  unfold ptB at *
  split at h
  · rename_i he
    rw [if_pos he]
    simp only [Bool.and_eq_true, decide_eq_true_eq] at *
    omega
  · rename_i he
    rw [if_neg he]
    simp only [Bool.and_eq_true, decide_eq_true_eq] at *
    rw [Int.neg_mul_neg]
    exact h
/-- the sum of two points is a point, or nothing -/
theorem ptS_ok {A B x1 y1 e1 x2 y2 e2 : Int} (hA : -1000 ≤ A ∧ A ≤ 1000) (hB : -10000 ≤ B ∧ B ≤ 10000) (hp : ptB A B x1 y1 e1 = true) (hq : ptB A B x2 y2 e2 = true) :
    ((ptS A x1 y1 e1 x2 y2 e2).2.2.2 = true ∧ ptB A B (ptS A x1 y1 e1 x2 y2 e2).1 (ptS A x1 y1 e1 x2 y2 e2).2.1 (ptS A x1 y1 e1 x2 y2 e2).2.2.1 = true) ∨ ptS A x1 y1 e1 x2 y2 e2 = (0, 0, 0, false) := by
  rcases pt_cases hA hB hp with ⟨rfl, rfl, rfl⟩ | ⟨he1, hx1, hy1, hg1, hc1⟩
  · rw [show ptS A 0 0 0 x2 y2 e2 = (x2, y2, e2, true) by simp [ptS]]
    exact Or.inl ⟨rfl, hq⟩
  rcases pt_cases hA hB hq with ⟨rfl, rfl, rfl⟩ | ⟨he2, hx2, hy2, hg2, hc2⟩
  · rw [show ptS A x1 y1 e1 0 0 0 = (x1, y1, e1, true) by simp [ptS]; omega]
    exact Or.inl ⟨rfl, hp⟩
  by_cases hz : x1 = x2 ∧ y1 = -y2 ∧ e1 = e2
  · rw [show ptS A x1 y1 e1 x2 y2 e2 = (0, 0, 0, true) by simp only [ptS, if_neg (show e1 ≠ 0 by omega), if_neg (show e2 ≠ 0 by omega), if_pos hz]]
    exact Or.inl ⟨rfl, ptB_zero A B⟩
  · rw [ptS_thV (by omega) (by omega) hz]
    have hzd : slD x1 y1 e1 x2 y2 e2 ≠ 0 := fun t => hz ((sl_zero he1.1 he2.1 hg1 hg2 hc1 hc2).1 t)
    obtain ⟨⟨x, y, e, k⟩, hr⟩ := third_ex he1.1 he2.1 hc1 hc2 hzd
    rw [thV_eq hzd (by omega) (by omega) hr]
    cases k
    · right
      rcases hr with ⟨x', y', e', h, _⟩ | ⟨h, _⟩
      · simp at h
      · exact h
    · left
      obtain ⟨g1, g2, g3, g4⟩ := third_on he1.1 he2.1 hc1 hc2 hzd hr
      exact ⟨rfl, ptB_mk g1 g2 g3 g4 hA hB⟩
/-- n times a point, step by step -/
noncomputable def ptM (A x y e : Int) : Nat → P4
  | 0 => (0, 0, 0, true)
  | k + 1 => if (ptM A x y e k).2.2.2 = true then ptS A (ptM A x y e k).1 (ptM A x y e k).2.1 (ptM A x y e k).2.2.1 x y e else (0, 0, 0, false)
theorem ptM_ok {A B x y e : Int} (hA : -1000 ≤ A ∧ A ≤ 1000) (hB : -10000 ≤ B ∧ B ≤ 10000) (hp : ptB A B x y e = true) (k : Nat) :
    ((ptM A x y e k).2.2.2 = true ∧ ptB A B (ptM A x y e k).1 (ptM A x y e k).2.1 (ptM A x y e k).2.2.1 = true) ∨ ptM A x y e k = (0, 0, 0, false) := by
  induction k with
  | zero => exact Or.inl ⟨rfl, ptB_zero A B⟩
  | succ k ih =>
    unfold ptM
    rcases ih with ⟨h1, h2⟩ | h
    · rw [if_pos h1]
      exact ptS_ok hA hB h2 hp
    · rw [h]; right; rfl
theorem ptM_no {A x y e : Int} {k : Nat} (h : (ptM A x y e k).2.2.2 = false) (j : Nat) (hj : k + 1 ≤ j) : ptM A x y e j = (0, 0, 0, false) := by
  induction j with
  | zero => omega
  | succ j ih =>
    unfold ptM
    by_cases hk : k = j
    · subst hk; rw [h]; simp
    · rw [ih (by omega)]; simp
/-- n times a point, n of any sign -/
noncomputable def ptN (A x y e n : Int) : P4 := if n < 0 then ptM A x (-y) e n.natAbs else ptM A x y e n.natAbs
theorem ptN_ok {A B x y e n : Int} (hA : -1000 ≤ A ∧ A ≤ 1000) (hB : -10000 ≤ B ∧ B ≤ 10000) (hp : ptB A B x y e = true) :
    ((ptN A x y e n).2.2.2 = true ∧ ptB A B (ptN A x y e n).1 (ptN A x y e n).2.1 (ptN A x y e n).2.2.1 = true) ∨ ptN A x y e n = (0, 0, 0, false) := by
  unfold ptN
  split
  · exact ptM_ok hA hB (ptB_neg hp) _
  · exact ptM_ok hA hB hp _
/-- the sum of the multiples of the first k points of a list -/
noncomputable def cmS (A : Int) (zs ns : List Int) : Nat → P4
  | 0 => (0, 0, 0, true)
  | k + 1 => if (cmS A zs ns k).2.2.2 = true ∧ (ptN A (zs[k * 3]?.getD 0) (zs[k * 3 + 1]?.getD 0) (zs[k * 3 + 2]?.getD 0) (ns[k]?.getD 0)).2.2.2 = true then
      ptS A (cmS A zs ns k).1 (cmS A zs ns k).2.1 (cmS A zs ns k).2.2.1 (ptN A (zs[k * 3]?.getD 0) (zs[k * 3 + 1]?.getD 0) (zs[k * 3 + 2]?.getD 0) (ns[k]?.getD 0)).1 (ptN A (zs[k * 3]?.getD 0) (zs[k * 3 + 1]?.getD 0) (zs[k * 3 + 2]?.getD 0) (ns[k]?.getD 0)).2.1 (ptN A (zs[k * 3]?.getD 0) (zs[k * 3 + 1]?.getD 0) (zs[k * 3 + 2]?.getD 0) (ns[k]?.getD 0)).2.2.1
    else (0, 0, 0, false)
theorem cmS_ok {A B : Int} {zs ns : List Int} {n : Nat} (hA : -1000 ≤ A ∧ A ≤ 1000) (hB : -10000 ≤ B ∧ B ≤ 10000) (hp : ∀ j, j < n → ptB A B (zs[j * 3]?.getD 0) (zs[j * 3 + 1]?.getD 0) (zs[j * 3 + 2]?.getD 0) = true) (k : Nat) (hk : k ≤ n) :
    ((cmS A zs ns k).2.2.2 = true ∧ ptB A B (cmS A zs ns k).1 (cmS A zs ns k).2.1 (cmS A zs ns k).2.2.1 = true) ∨ cmS A zs ns k = (0, 0, 0, false) := by
  induction k with
  | zero => exact Or.inl ⟨rfl, ptB_zero A B⟩
  | succ k ih =>
    unfold cmS
    split
    · rename_i h
      rcases ih (by omega) with ⟨h1, h2⟩ | h1
      · rcases ptN_ok (n := ns[k]?.getD 0) hA hB (hp k (by omega)) with ⟨h3, h4⟩ | h3
        · exact ptS_ok hA hB h2 h4
        · rw [h3] at h; simp at h
      · rw [h1] at h; simp at h
    · exact Or.inr rfl
theorem cmS_no {A : Int} {zs ns : List Int} {k : Nat} (h : (cmS A zs ns k).2.2.2 = false) (j : Nat) (hj : k + 1 ≤ j) : cmS A zs ns j = (0, 0, 0, false) := by
  induction j with
  | zero => omega
  | succ j ih =>
    unfold cmS
    by_cases hk : k = j
    · subst hk; rw [if_neg (by rw [h]; simp)]
    · rw [ih (by omega)]; simp
end Go.Proofs.Ytbnglnbcfabmgaa
