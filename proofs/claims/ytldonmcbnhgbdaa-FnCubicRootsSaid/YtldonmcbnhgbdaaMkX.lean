/- Rows of structs of integers: comparing, marking and finding the marks again (the copies in the laws). -/
import Derived.Test.YtldonmcbnhgbdaaMk
import Derived.Test.YtldonmcbnhgbdaaDrawn
import Derived.Deep.RegionHeld3
import Derived.BigQuiet
namespace Go.Proofs.Ytldonmcbnhgbdaa
open Go.RowKit
set_option linter.unusedVariables false
set_option maxHeartbeats 4000000
set_option maxRecDepth 20000
set_option linter.unusedSimpArgs false
/-- the cells of block g from 0 on hold the integers zs, none of them frozen -/
def RowX (W : World) (g : Nat) (zs : List Int) : Prop := g < W.heap.size ∧ ∀ j, j < zs.length → W.cell? ⟨g, j, none⟩ = some (.int .i64 (zs[j]?.getD 0)) ∧ W.frozen? ⟨g, j, none⟩ = false
theorem frozen_set (W : World) (p q : Addr) (x : Value) : (W.setCell p x).frozen? q = W.frozen? q := by
  by_cases h : p.block = q.block
  · unfold World.frozen? World.setCell
    simp only [Array.getElem?_modify, if_pos h]
    cases W.heap[q.block]? with
    | none => rfl
    | some o => cases o <;> rfl
  · exact World.frozen?_of_block (Below.heap_setCell W p x q.block (fun e => h e.symm))
theorem RowX.set {W : World} {g : Nat} {zs : List Int} (h : RowX W g zs) {i : Nat} (hi : i < zs.length) (x : Int) : RowX (W.setCell ⟨g, i, none⟩ (.int .i64 x)) g (zs.set i x) := by
  refine ⟨by simpa [World.setCell] using h.1, fun j hj => ?_⟩
  rw [List.length_set] at hj
  refine ⟨?_, (frozen_set _ _ _ _).trans (h.2 j hj).2⟩
  rw [List.getElem?_set]
  by_cases e : i = j
  · subst e
    rw [if_pos rfl, if_pos hi]
    exact World.cell?_setCell_same W ⟨g, i, none⟩ _ (h.2 i hi).1
  · rw [if_neg e]
    refine (World.cell?_setCell_other W ⟨g, i, none⟩ ⟨g, j, none⟩ _ (fun q => e (by injection q))).trans (h.2 j hj).1
theorem RowX.keep {W V : World} {g : Nat} {zs : List Int} (h : RowX W g zs) (hs : W.heap.size ≤ V.heap.size) (hk : V.heap[g]? = W.heap[g]?) : RowX V g zs :=
  ⟨Nat.lt_of_lt_of_le h.1 hs, fun j hj => ⟨(World.cell?_of_block (a := ⟨g, j, none⟩) hk).trans (h.2 j hj).1, (World.frozen?_of_block (a := ⟨g, j, none⟩) hk).trans (h.2 j hj).2⟩⟩
theorem RowX.via {W V : World} {g : Nat} {zs : List Int} (h : RowX W g zs) (hb : Below W.heap.size W V) : RowX V g zs := h.keep hb.size (hb.block g h.1)
/-- a slice of n structs of s integers each, above block B -/
def SlX (W : World) (B s : Nat) (v : Value) (n : Nat) (zs : List Int) : Prop := zs.length = s * n ∧ ((v = .slice none 0 0 ∧ n = 0) ∨ ∃ g cap, v = .slice (some ⟨g, 0, none⟩) n cap ∧ n ≤ cap ∧ cap ≤ maxLen ∧ B ≤ g ∧ RowX W g zs)
theorem SlX.via {W V : World} {B s : Nat} {v : Value} {n : Nat} {zs : List Int} (h : SlX W B s v n zs) (hb : Below W.heap.size W V) : SlX V B s v n zs := ⟨h.1, h.2.imp id fun ⟨g, cap, h1, h2, h3, h4, h5⟩ => ⟨g, cap, h1, h2, h3, h4, h5.via hb⟩⟩
theorem SlX.low {W : World} {B B' s : Nat} {v : Value} {n : Nat} {zs : List Int} (h : SlX W B s v n zs) (hB : B' ≤ B) : SlX W B' s v n zs := ⟨h.1, h.2.imp id fun ⟨g, cap, h1, h2, h3, h4, h5⟩ => ⟨g, cap, h1, h2, h3, Nat.le_trans hB h4, h5⟩⟩
theorem SlX.shape {W : World} {B s : Nat} {v : Value} {n : Nat} {zs : List Int} (h : SlX W B s v n zs) : ∃ a c, v = .slice a n c := by
  rcases h.2 with ⟨rfl, rfl⟩ | ⟨g, cap, rfl, _⟩
  · exact ⟨_, _, rfl⟩
  · exact ⟨_, _, rfl⟩
theorem SlX.keep {W V : World} {B s : Nat} {v : Value} {n : Nat} {zs : List Int} (h : SlX W B s v n zs) (hs : W.heap.size ≤ V.heap.size) (hk : ∀ i, i < W.heap.size → some i = v.ownBlock → V.heap[i]? = W.heap[i]?) : SlX V B s v n zs := by
  refine ⟨h.1, h.2.imp id ?_⟩
  rintro ⟨g, cap, rfl, h2, h3, h4, h5⟩
  exact ⟨g, cap, rfl, h2, h3, h4, h5.keep hs (hk g h5.1 rfl)⟩
theorem SlX.apart {W : World} {B s : Nat} {v : Value} {n : Nat} {zs : List Int} (h : SlX W B s v n zs) : ∀ i, some i = v.ownBlock → B ≤ i := by
  intro i e
  rcases h.2 with ⟨rfl, -⟩ | ⟨g, cap, rfl, -, -, hB, -⟩
  · simp [Value.ownBlock] at e
  · simp [Value.ownBlock] at e; omega
theorem SlX.lt {W : World} {B s : Nat} {v : Value} {n : Nat} {zs : List Int} (h : SlX W B s v n zs) : ∀ i, some i = v.ownBlock → i < W.heap.size := by
  intro i e
  rcases h.2 with ⟨rfl, -⟩ | ⟨g, cap, rfl, -, -, -, h5⟩
  · simp [Value.ownBlock] at e
  · simp [Value.ownBlock] at e; have := h5.1; omega
theorem marks_set2 {k : Int} {qs : List Int} {n j : Nat} (hl : qs.length = n) (hj : j + 1 < n) (h : qs.take j = marks k j) : ((qs.set j (k + j)).set (j + 1) (k + (j + 1))).take (j + 1 + 1) = marks k (j + 1 + 1) := by
  have h1 := marks_set hl (by omega) h
  have := marks_set (k := k) (qs := qs.set j (k + j)) (n := n) (j := j + 1) (by simpa using hl) hj h1
  simpa using this
theorem marks_set3 {k : Int} {qs : List Int} {n j : Nat} (hl : qs.length = n) (hj : j + 2 < n) (h : qs.take j = marks k j) : (((qs.set j (k + j)).set (j + 1) (k + (j + 1))).set (j + 2) (k + (j + 2))).take (j + 2 + 1) = marks k (j + 2 + 1) := by
  have h1 := marks_set2 hl (by omega) h
  have := marks_set (k := k) (qs := (qs.set j (k + j)).set (j + 1) (k + (j + 1))) (n := n) (j := j + 2) (by simpa using hl) hj h1
  simpa using this
theorem grown_set {W V : World} {g o : Nat} {x : Value} {v : Value} (h : W.grownBy V v.ownBlock) (hv : v.ownBlock = some g) : W.grownBy (V.setCell ⟨g, o, none⟩ x) v.ownBlock :=
  ⟨h.os, h.tape, h.output, by simpa [World.setCell] using h.size, fun i hi hne => by
    rw [← h.block i hi hne]
    exact Below.heap_setCell V ⟨g, o, none⟩ _ i (fun e2 => hne (by rw [hv, show i = g from e2]))⟩
end Go.Proofs.Ytldonmcbnhgbdaa
