/- Lemmas and contracts of functions. No condition. -/
import Derived.Test.YtnemnkbcbokafaaGreatPk11
import Derived.Test.YtnemnkbcbokafaaGreatPk22
namespace Go.Proofs.YtnemnkbcbokafaaGreat
open Go.RowKit
set_option linter.unusedVariables false
set_option linter.unusedSimpArgs false
theorem den_ne {n d : Int} (h : frB n d = true) : d ≠ 0 := by have := frB_bd h; omega
theorem prF_q {n1 d1 n2 d2 : Int} (f1 : frB n1 d1 = true) (f2 : frB n2 d2 = true) (h : (prF n1 d1 n2 d2).2.2 = true) : frB (prF n1 d1 n2 d2).1 (prF n1 d1 n2 d2).2.1 = true ∧ qv (prF n1 d1 n2 d2).1 (prF n1 d1 n2 d2).2.1 = qv n1 d1 * qv n2 d2 := by
  obtain ⟨h1, h2⟩ := mkF_q (Int.mul_ne_zero (den_ne f1) (den_ne f2)) h
  exact ⟨h1, h2.trans (qv_muls _ _ _ _ (den_ne f1) (den_ne f2))⟩
theorem suF_q {n1 d1 n2 d2 : Int} (f1 : frB n1 d1 = true) (f2 : frB n2 d2 = true) (h : (suF n1 d1 n2 d2).2.2 = true) : frB (suF n1 d1 n2 d2).1 (suF n1 d1 n2 d2).2.1 = true ∧ qv (suF n1 d1 n2 d2).1 (suF n1 d1 n2 d2).2.1 = qv n1 d1 + qv n2 d2 := by
  obtain ⟨h1, h2⟩ := mkF_q (Int.mul_ne_zero (den_ne f1) (den_ne f2)) h
  exact ⟨h1, h2.trans (qv_adds _ _ _ _ (den_ne f1) (den_ne f2))⟩
theorem diF_q {n1 d1 n2 d2 : Int} (f1 : frB n1 d1 = true) (f2 : frB n2 d2 = true) (h : (diF n1 d1 n2 d2).2.2 = true) : frB (diF n1 d1 n2 d2).1 (diF n1 d1 n2 d2).2.1 = true ∧ qv (diF n1 d1 n2 d2).1 (diF n1 d1 n2 d2).2.1 = qv n1 d1 - qv n2 d2 := by
  obtain ⟨h1, h2⟩ := mkF_q (Int.mul_ne_zero (den_ne f1) (den_ne f2)) h
  exact ⟨h1, h2.trans (qv_subs _ _ _ _ (den_ne f1) (den_ne f2))⟩
theorem quF_q {n1 d1 n2 d2 : Int} (f1 : frB n1 d1 = true) (f2 : frB n2 d2 = true) (h : (quF n1 d1 n2 d2).2.2 = true) : n2 ≠ 0 ∧ frB (quF n1 d1 n2 d2).1 (quF n1 d1 n2 d2).2.1 = true ∧ qv (quF n1 d1 n2 d2).1 (quF n1 d1 n2 d2).2.1 * qv n2 d2 = qv n1 d1 := by
  unfold quF at h ⊢
  by_cases h0 : n2 = 0
  · rw [if_pos h0] at h; cases h
  · rw [if_neg h0] at h ⊢
    obtain ⟨h1, h2⟩ := mkF_q (Int.mul_ne_zero (den_ne f1) h0) h
    exact ⟨h0, h1, by rw [h2]; exact qv_divs _ _ _ _ (den_ne f1) (den_ne f2) h0⟩
theorem onS_q {a b nx dx ny dy : Int} (ha : -1000000000 ≤ a ∧ a ≤ 1000000000) (hb : -1000000000 ≤ b ∧ b ≤ 1000000000) (fx : frB nx dx = true) (fy : frB ny dy = true) (h : (onS a b nx dx ny dy).2 = true) :
    ((onS a b nx dx ny dy).1 = true ↔ qv ny dy * qv ny dy = qv nx dx * ((qv nx dx + (a : Rat)) * qv nx dx + (b : Rat))) := by
  have fa := frB_one ha.1 ha.2
  have fb := frB_one hb.1 hb.2
  unfold onS at h ⊢
  dsimp only at h ⊢
  split at h
  · rename_i h1
    rw [if_pos h1]
    obtain ⟨k1, k2⟩ := Bool.and_eq_true_iff.1 h1
    obtain ⟨p1, p2⟩ := prF_q fy fy k1
    obtain ⟨s1, s2⟩ := suF_q fx fa k2
    split at h
    · rename_i h3
      rw [if_pos h3]
      obtain ⟨t1, t2⟩ := prF_q s1 fx h3
      split at h
      · rename_i h4
        rw [if_pos h4]
        obtain ⟨u1, u2⟩ := suF_q t1 fb h4
        have h5 : (prF nx dx (suF (prF (suF nx dx a 1).1 (suF nx dx a 1).2.1 nx dx).1 (prF (suF nx dx a 1).1 (suF nx dx a 1).2.1 nx dx).2.1 b 1).1 (suF (prF (suF nx dx a 1).1 (suF nx dx a 1).2.1 nx dx).1 (prF (suF nx dx a 1).1 (suF nx dx a 1).2.1 nx dx).2.1 b 1).2.1).2.2 = true := h
        obtain ⟨r1, r2⟩ := prF_q fx u1 h5
        rw [qv_one] at s2 u2
        rw [s2] at t2
        rw [t2] at u2
        rw [u2] at r2
        rw [h5, Bool.true_and, ← r2, ← p2]
        generalize prF nx dx _ _ = R at *
        generalize prF ny dy ny dy = P at *
        constructor
        · intro e
          obtain ⟨e1, e2⟩ := Bool.and_eq_true_iff.1 e
          rw [eq_of_beq e1, eq_of_beq e2]
        · intro e
          obtain ⟨e1, e2⟩ := qv_inj p1 r1 e
          rw [e1, e2]; simp
      · cases h
    · cases h
  · cases h
end Go.Proofs.YtnemnkbcbokafaaGreat
