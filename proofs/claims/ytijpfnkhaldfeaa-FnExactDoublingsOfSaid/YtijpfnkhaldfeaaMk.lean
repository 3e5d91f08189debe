/- The laws' marks in rows of integers, and equality of such rows. -/
import Derived.Test.YtijpfnkhaldfeaaProg
import Derived.Test.YtijpfnkhaldfeaaSl
namespace Go.Proofs.Ytijpfnkhaldfeaa
open Go.RowKit
set_option linter.unusedVariables false
set_option maxHeartbeats 1000000
set_option maxRecDepth 20000
set_option linter.unusedSimpArgs false
attribute [local go_sem] openAt openUpon
/-- a row of integers that a call has made: its value, and the numbers -/
def OwnI (W : World) (B : Nat) (T : TypeId) (v : Value) (zs : List Int) : Prop := W.ownsRow B T 1 v zs.length (ints zs)
theorem OwnI.below {W W2 : World} {B : Nat} {T : TypeId} {v : Value} {zs : List Int} (h : OwnI W B T v zs) (hb : Below W.heap.size W W2) : OwnI W2 B T v zs :=
  ⟨h.1, h.2.imp id fun ⟨g, cap, cur, hv, hB, hg, rest⟩ => ⟨g, cap, cur, hv, hB, (hb.block g (blk_lt' hg)).trans hg, rest⟩⟩
theorem OwnI.shape {W : World} {B : Nat} {T : TypeId} {v : Value} {zs : List Int} (h : OwnI W B T v zs) : (v = .slice none 0 0 ∧ zs = []) ∨ ∃ g cap, v = .slice (some ⟨g, 0, none⟩) zs.length cap ∧ zs.length ≤ cap ∧ cap ≤ maxLen ∧ B ≤ g ∧ g < W.heap.size ∧ (∀ j, j < zs.length → W.cell? ⟨g, j, none⟩ = some (.int .i64 (zs[j]?.getD 0))) ∧ (∀ o, W.frozen? ⟨g, o, none⟩ = false) := by
  obtain ⟨hl, h⟩ := h
  rcases h with ⟨h1, h2⟩ | ⟨g, cap, cur, hv, hB, hg, hnc, hcm, hcs, ht⟩
  · exact .inl ⟨h1, List.length_eq_zero_iff.1 h2⟩
  · refine .inr ⟨g, cap, hv, hnc, hcm, hB, blk_lt' hg, fun j hj => ?_, fun o => blk_frozen hg o⟩
    rw [cell_of_row W g j cur T (0, 0) hg]
    have h3 : (ints zs)[j]? = cur[j]? := by rw [← ht, List.getElem?_take, if_pos (by omega)]; simp
    rw [← h3, ints_at zs j hj, List.getD_eq_getElem?_getD]
theorem OwnI.set {W : World} {B g cap : Nat} {T : TypeId} {zs : List Int} (h : OwnI W B T (.slice (some ⟨g, 0, none⟩) zs.length cap) zs) {j : Nat} (hj : j < zs.length) (x : Int) : OwnI (W.setCell ⟨g, j, none⟩ (.int .i64 x)) B T (.slice (some ⟨g, 0, none⟩) zs.length cap) (zs.set j x) := by
  obtain ⟨hl, h⟩ := h
  rcases h with ⟨h1, h2⟩ | ⟨g', cap', cur, hv, hB, hg, hnc, hcm, hcs, ht⟩
  · cases h1
  · simp only [Value.slice.injEq, Option.some.injEq, Addr.mk.injEq, and_true, true_and] at hv
    obtain ⟨rfl, rfl⟩ := hv
    refine ⟨by simp [ints], .inr ⟨g, cap, cur.setIfInBounds j (.int .i64 x), by simp, hB, ?_, by simpa using hnc, hcm, by simpa using hcs, ?_⟩⟩
    · simpa using blk_set (o := j) (v := .int .i64 x) hg
    · simp only [List.length_set, Array.toList_setIfInBounds]
      rw [List.take_set, ht]
      simp [ints, List.map_set]
/-- n marks from k on -/
def marks (k : Int) : Nat → List Int
  | 0 => []
  | n + 1 => marks k n ++ [k + n]
theorem marks_len (k : Int) : ∀ n, (marks k n).length = n
  | 0 => rfl
  | n + 1 => by simp [marks, marks_len k n]
theorem marks_at (k : Int) : ∀ (n j : Nat), j < n → (marks k n)[j]?.getD 0 = k + j
  | n + 1, j, h => by
    by_cases hj : j < n
    · rw [marks, List.getElem?_append_left (by rw [marks_len]; exact hj)]; exact marks_at k n j hj
    · obtain rfl : j = n := by omega
      rw [marks, List.getElem?_append_right (by rw [marks_len]; omega), marks_len]; simp
theorem marks_set {k : Int} {qs : List Int} {n j : Nat} (hl : qs.length = n) (hj : j < n) (h : qs.take j = marks k j) : (qs.set j (k + j)).take (j + 1) = marks k (j + 1) := by
  rw [marks, ← h, List.take_set]
  apply List.ext_getElem?
  intro i
  simp only [List.getElem?_set, List.getElem?_take, List.length_take, hl, List.getElem?_append]
  by_cases h1 : i < j
  · rw [if_neg (by omega), if_pos (by omega), if_pos (by omega), if_pos h1]
  · by_cases h2 : i = j
    · subst h2
      rw [if_pos rfl, if_pos (by omega), if_neg (by omega)]
      simp [show i - min i n = 0 by omega]
    · rw [if_neg (by omega), if_neg (by omega), if_neg (by omega)]
      rw [List.getElem?_eq_none (by simp; omega)]
theorem eqIntS_same {a a2 : Option Addr} {n c n2 c2 : Nat} {zs : List Int} {w : World} (h : Sx w a n c zs) (h2 : Sx w a2 n2 c2 zs) : Calls Try.prog 39 #[.slice a n c, .slice a2 n2 c2] w fun e w' => e = .returned (.bool true) ∧ Below w.heap.size w w' := by
  obtain rfl : n2 = n := by have := h2.len; have := h.len; omega
  have hnm := h.cap
  have hnm2 := h.max
  unfold maxLen at hnm2
  have e1 : ((n2 : Int) != (n2 : Int)) = false := by simp
  go_enter Try.func39, Try.ntmps39
  go_wp2_with fail
  go_loopw [5] (fun iv wr => ∃ k : Nat, iv = .int .i64 k ∧ k ≤ n2 ∧ ∃ m, wr = w.drewN m) (fun iv _ => (n2 - intOf iv).toNat)
  case atStart => exact ⟨0, rfl, by omega, 0, rfl⟩
  case round =>
    obtain ⟨k, rfl, hk, m, rfl⟩ := hrel
    by_cases h0 : k < n2
    · obtain ⟨b, off, rfl, hb, hcs⟩ := h.at (by omega)
      obtain ⟨b2, off2, rfl, hb2, hcs2⟩ := h2.at (by omega)
      have c0 := hcs k h0
      have d0 := hcs2 k h0
      have hk2 : (k : Int) < (n2 : Int) := by omega
      have hx : ∀ x : Int, (x != x) = false := fun x => by simp
      clear hcs hcs2
      go_wp2_with fail
      go_quiet (fail)
      go_wp2_with fail
      go_roundw
      case rel => exact ⟨k + 1, by go_num, by omega, _, rfl⟩
      case measure => simp [intOf]; omega
    · obtain rfl : k = n2 := by omega
      go_wp2_with fail
      go_ret
      exact ⟨rfl, below_drewN (Below.refl _ _) _⟩
theorem heldIntS_any {a : Option Addr} {n c : Nat} {k : Int} {w : World} (h : Sx w a n c (marks k n)) (h0 : 0 ≤ k) (h1 : k ≤ 1000000000) (hn : n ≤ 1000000000) : Calls Try.prog 26 #[.slice a n c, .int .i64 k] w fun e w' => e = .returned (.int .i64 (k + n)) ∧ Below w.heap.size w w' := by
  go_enter Try.func26, Try.ntmps26
  go_wp2_with fail
  go_loopw [5, 1] (fun iv kv wr => ∃ j : Nat, iv = .int .i64 j ∧ kv = .int .i64 (k + j) ∧ j ≤ n ∧ wr = w) (fun iv _ _ => (n - intOf iv).toNat)
  case atStart => exact ⟨0, rfl, by simp, by omega, rfl⟩
  case round =>
    obtain ⟨j, rfl, rfl, hj, rfl⟩ := hrel
    by_cases hlt : j < n
    · obtain ⟨b, off, rfl, hb, hcs⟩ := h.at (by omega)
      have c0 := hcs j hlt
      rw [marks_at k n j hlt] at c0
      have hk2 : (j : Int) < (n : Int) := by omega
      have hx : ((k + (j : Int)) != (k + (j : Int))) = false := by simp
      clear hcs
      go_wp2_with fail
      go_roundw
      case rel => exact ⟨j + 1, by go_num, by congr 1; omega, by omega, (by first | rfl | trivial)⟩
      case measure => simp [intOf]; omega
    · obtain rfl : j = n := by omega
      go_wp2_with fail
      go_ret
      exact ⟨rfl, Below.refl _ _⟩
/-- world wr: row v holds qs, every other block is as in w -/
def MaRel (w : World) (B : Nat) (v : Value) (k : Int) (n : Nat) (iv kv : Value) (wr : World) : Prop := ∃ (j : Nat) (qs : List Int), iv = .int .i64 j ∧ kv = .int .i64 (k + j) ∧ j ≤ n ∧ qs.length = n ∧ qs.take j = marks k j ∧ OwnI wr B 3 v qs ∧ w.grownBy wr v.ownBlock
theorem markIntS_any {v : Value} {B : Nat} {zs : List Int} {k : Int} {w : World} (h : OwnI w B 3 v zs) (h0 : 0 ≤ k) (h1 : k ≤ 1000000000) (hn : zs.length ≤ 1000000000) : Calls Try.prog 25 #[v, .int .i64 k] w fun e w' => e = .returned (.int .i64 (k + zs.length)) ∧ OwnI w' B 3 v (marks k zs.length) ∧ w.grownBy w' v.ownBlock := by
  have hsh := h.shape
  obtain ⟨n, hnl⟩ : ∃ n, zs.length = n := ⟨_, rfl⟩
  have hv : ∃ a c, v = .slice a n c := by
    rcases hsh with ⟨rfl, rfl⟩ | ⟨g, cap, rfl, _⟩
    · exact ⟨none, 0, by rw [← hnl]; rfl⟩
    · exact ⟨_, _, by rw [← hnl]⟩
  obtain ⟨a, c, rfl⟩ := hv
  rw [hnl] at hn ⊢
  have HL := Lib.hid hnl
  clear hsh hnl
  go_enter Try.func25, Try.ntmps25
  go_wp2_with fail
  go_loopw [5, 1] (fun iv kv wr => MaRel w B (.slice a n c) k n iv kv wr) (fun iv _ _ => (n - intOf iv).toNat)
  case atStart => exact ⟨0, zs, rfl, by simp, by omega, HL.out, rfl, h, ⟨rfl, rfl, rfl, Nat.le_refl _, fun _ _ _ => rfl⟩⟩
  case round =>
    obtain ⟨j, qs, rfl, rfl, hj, hq, ht, ho, hg⟩ := hrel
    have HQ := Lib.hid hq
    have HT := Lib.hid ht
    clear hq ht
    by_cases hlt : j < n
    · rcases ho.shape with ⟨_, h3⟩ | ⟨g, cap, h3, hnc, hcm, hB, hgs, hcl, hfz⟩
      · exfalso; have := HQ.out; rw [h3] at this; simp at this; omega
      · simp only [Value.slice.injEq] at h3
        obtain ⟨rfl, h4, rfl⟩ := h3
        clear h4
        have HO := Lib.hid ho
        have c0 := hcl j (by have := HQ.out; omega)
        have hk2 : (j : Int) < (n : Int) := by omega
        have f0 := hfz j
        clear hcl ho
        go_wp2_with fail
        go_roundw
        case rel =>
          have ho := HO.out
          have e : n = qs.length := HQ.out.symm
          refine ⟨j + 1, qs.set j (k + j), by go_num, by congr 1; omega, by omega, by simp [HQ.out], marks_set HQ.out hlt HT.out, ?_, ?_⟩
          · rw [e] at ho ⊢
            exact ho.set (by omega) _
          · exact ⟨hg.os, hg.tape, hg.output, by simpa [World.setCell] using hg.size, fun i hi hne => by
              rw [← hg.block i hi hne]
              exact Below.heap_setCell wr ⟨g, j, none⟩ _ i (fun e2 => hne (by rw [e2]; rfl))⟩
        case measure => simp [intOf]; omega
    · obtain rfl : j = n := by omega
      have e : qs = marks k j := by rw [← HT.out, List.take_of_length_le (by have := HQ.out; omega)]
      subst e
      go_wp2_with fail
      go_ret
      exact ⟨rfl, ho, hg⟩
end Go.Proofs.Ytijpfnkhaldfeaa
