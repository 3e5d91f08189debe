/- Slices that a call itself has made, several at a time: rows that lie apart. No program in sight. -/
import Derived.Test.YtijpfnkhaldfeaaBase
import Derived.Maps.AppendAt
namespace Go.Proofs.Ytijpfnkhaldfeaa
open Go.RowKit
set_option linter.unusedVariables false
set_option linter.unusedSimpArgs false

def apart (v u : Value) : Prop := ∀ b, v.ownBlock = some b → u.ownBlock ≠ some b
theorem apart.symm {v u : Value} (h : apart v u) : apart u v := fun b hb hc => h b hc hb
theorem apart_nil (u : Value) : apart (.slice none 0 0) u := fun b hb => by simp [Value.ownBlock] at hb
theorem apart_nil' (u : Value) : apart u (.slice none 0 0) := fun b _ => by simp [Value.ownBlock]
theorem apart.kept {v u : Value} (h : apart v u) : u.ownBlock = none ∨ u.ownBlock ≠ v.ownBlock := by
  cases hu : u.ownBlock with
  | none => exact .inl rfl
  | some b => exact .inr fun e => h b e.symm hu
/-- behind an append to v: u is kept, and what came of v lies apart from u -/
theorem apart.grown {v v' u : Value} {w : World} {B : Nat} {e : TypeId} {s n : Nat} {xs : List Value} (h : apart v u) (hu : w.ownsRow B e s u n xs)
    (hat : v'.ownBlock = v.ownBlock ∨ v'.ownBlock = some w.heap.size) : apart v' u := by
  intro b hb hc
  rcases hat with x | x
  · exact h b (by rw [← x]; exact hb) hc
  · rw [x] at hb
    obtain rfl := Option.some.inj hb
    have := hu.lt _ hc
    omega
theorem apart.lit {v v' : Value} {w : World} {l : Nat} (h : v.ownBlock ≠ some l) (hl : l < w.heap.size) (hat : v'.ownBlock = v.ownBlock ∨ v'.ownBlock = some w.heap.size) : v'.ownBlock ≠ some l := by
  rcases hat with x | x
  · rw [x]; exact h
  · rw [x]; intro e; obtain rfl := Option.some.inj e; omega
theorem own_fresh {w : World} {B : Nat} {e : TypeId} {s n : Nat} {v : Value} {xs : List Value} (h : w.ownsRow B e s v n xs) : v.ownBlock ≠ some w.heap.size := by
  intro hc; have := h.lt _ hc; omega
theorem own_cell {w : World} {B : Nat} {e : TypeId} {n : Nat} {v : Value} {xs : List Value} (h : w.ownsRow B e 1 v n xs) (hn : 0 < n) :
    ∃ g c, v = .slice (some ⟨g, 0, none⟩) n c ∧ B ≤ g ∧ g < w.heap.size ∧ (∀ j, j < n → w.cell? ⟨g, j, none⟩ = xs[j]?) ∧ (∀ j, w.frozen? ⟨g, j, none⟩ = false) := by
  obtain ⟨hl, h⟩ := h
  rcases h with ⟨_, h⟩ | ⟨g, c, cur, rfl, hB, hg, hnc, hcm, hcs, ht⟩
  · omega
  · refine ⟨g, c, rfl, hB, (Array.getElem?_eq_some_iff.1 hg).1, fun j hj => ?_, fun j => ?_⟩
    · rw [cell_of_row w g j cur e (0, 0) hg, ← ht, List.getElem?_take, if_pos (by omega)]; simp
    · simp [World.frozen?, hg]
end Go.Proofs.Ytijpfnkhaldfeaa
