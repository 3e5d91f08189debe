/- The laws' marks in rows of integers, and equality of such rows. -/
import Derived.Test.YtnemnkbcbokafaaProg
import Derived.Test.YtnemnkbcbokafaaSl
namespace Go.Proofs.Ytnemnkbcbokafaa
open Go.RowKit
set_option linter.unusedVariables false
set_option maxHeartbeats 1000000
set_option maxRecDepth 20000
set_option linter.unusedSimpArgs false
attribute [local go_sem] openAt openUpon
/-- a row of integers that a call has made: its value, and the numbers -/
def OwnI (W : World) (B : Nat) (T : TypeId) (v : Value) (zs : List Int) : Prop := W.ownsRow B T 1 v zs.length (ints zs)
theorem OwnI.below {W W2 : World} {B : Nat} {T : TypeId} {v : Value} {zs : List Int} (h : OwnI W B T v zs) (hb : Below W.heap.size W W2) : OwnI W2 B T v zs :=
  ⟨h.1, h.2.imp id fun ⟨g, cap, cur, hv, hB, hg, rest⟩ => ⟨g, cap, cur, hv, hB, (hb.block g (blk_lt' hg)).trans hg, rest⟩⟩
theorem OwnI.shape {W : World} {B : Nat} {T : TypeId} {v : Value} {zs : List Int} (h : OwnI W B T v zs) : (v = .slice none 0 0 ∧ zs = []) ∨ ∃ g cap, v = .slice (some ⟨g, 0, none⟩) zs.length cap ∧ zs.length ≤ cap ∧ cap ≤ maxLen ∧ B ≤ g ∧ g < W.heap.size ∧ (∀ j, j < zs.length → W.cell? ⟨g, j, none⟩ = some (.int .i64 (zs[j]?.getD 0))) ∧ (∀ o, W.frozen? ⟨g, o, none⟩ = false) := by
  obtain ⟨hl, h⟩ := h
  rcases h with ⟨h1, h2⟩ | ⟨g, cap, cur, hv, hB, hg, hnc, hcm, hcs, ht⟩
  · exact .inl ⟨h1, List.length_eq_zero_iff.1 h2⟩
  · refine .inr ⟨g, cap, hv, hnc, hcm, hB, blk_lt' hg, fun j hj => ?_, fun o => blk_frozen hg o⟩
    rw [cell_of_row W g j cur T (0, 0) hg]
    have h3 : (ints zs)[j]? = cur[j]? := by rw [← ht, List.getElem?_take, if_pos (by omega)]; simp
    rw [← h3, ints_at zs j hj, List.getD_eq_getElem?_getD]
theorem OwnI.set {W : World} {B g cap : Nat} {T : TypeId} {zs : List Int} (h : OwnI W B T (.slice (some ⟨g, 0, none⟩) zs.length cap) zs) {j : Nat} (hj : j < zs.length) (x : Int) : OwnI (W.setCell ⟨g, j, none⟩ (.int .i64 x)) B T (.slice (some ⟨g, 0, none⟩) zs.length cap) (zs.set j x) := by
  obtain ⟨hl, h⟩ := h
  rcases h with ⟨h1, h2⟩ | ⟨g', cap', cur, hv, hB, hg, hnc, hcm, hcs, ht⟩
  · cases h1
  · simp only [Value.slice.injEq, Option.some.injEq, Addr.mk.injEq, and_true, true_and] at hv
    obtain ⟨rfl, rfl⟩ := hv
    refine ⟨by simp [ints], .inr ⟨g, cap, cur.setIfInBounds j (.int .i64 x), by simp, hB, ?_, by simpa using hnc, hcm, by simpa using hcs, ?_⟩⟩
    · simpa using blk_set (o := j) (v := .int .i64 x) hg
    · simp only [List.length_set, Array.toList_setIfInBounds]
      rw [List.take_set, ht]
      simp [ints, List.map_set]
/-- n marks from k on -/
def marks (k : Int) : Nat → List Int
  | 0 => []
  | n + 1 => marks k n ++ [k + n]
theorem marks_len (k : Int) : ∀ n, (marks k n).length = n
  | 0 => rfl
  | n + 1 => by simp [marks, marks_len k n]
theorem marks_at (k : Int) : ∀ (n j : Nat), j < n → (marks k n)[j]?.getD 0 = k + j
  | n + 1, j, h => by
    by_cases hj : j < n
    · rw [marks, List.getElem?_append_left (by rw [marks_len]; exact hj)]; exact marks_at k n j hj
    · obtain rfl : j = n := by omega
      rw [marks, List.getElem?_append_right (by rw [marks_len]; omega), marks_len]; simp
theorem marks_set {k : Int} {qs : List Int} {n j : Nat} (hl : qs.length = n) (hj : j < n) (h : qs.take j = marks k j) : (qs.set j (k + j)).take (j + 1) = marks k (j + 1) := by
  rw [marks, ← h, List.take_set]
  apply List.ext_getElem?
  intro i
  simp only [List.getElem?_set, List.getElem?_take, List.length_take, hl, List.getElem?_append]
  by_cases h1 : i < j
  · rw [if_neg (by omega), if_pos (by omega), if_pos (by omega), if_pos h1]
  · by_cases h2 : i = j
    · subst h2
      rw [if_pos rfl, if_pos (by omega), if_neg (by omega)]
      simp [show i - min i n = 0 by omega]
    · rw [if_neg (by omega), if_neg (by omega), if_neg (by omega)]
      rw [List.getElem?_eq_none (by simp; omega)]
end Go.Proofs.Ytnemnkbcbokafaa
