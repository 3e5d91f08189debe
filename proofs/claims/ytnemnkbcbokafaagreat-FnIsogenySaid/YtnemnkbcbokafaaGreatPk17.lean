/- Lemmas and contracts of functions. No condition. -/
import Derived.Test.YtnemnkbcbokafaaGreatPk14
namespace Go.Proofs.YtnemnkbcbokafaaGreat
open Go.RowKit
set_option linter.unusedVariables false
set_option linter.unusedSimpArgs false
theorem chk {P : Program} {code : Code} {Q : Exit → Act → World → Prop} {a : Act} {E : World} (F : World → Prop) (h : F E) (k : ∀ W, F W → code.wp P Q a W) : code.wp P Q a E := k E h
theorem bx_set1 {W : World} {g : Nat} {u0 v0 : Value} {T : TypeId} (h : W.heap[g]? = some (.cells #[u0] T)) : (W.setCell ⟨g, 0, none⟩ v0).heap[g]? = some (.cells #[v0] T) := by
  simpa using blk_set (o := 0) (v := v0) h
theorem bx_set2 {W : World} {g : Nat} {u0 u1 v0 v1 : Value} {T : TypeId} (h : W.heap[g]? = some (.cells #[u0, u1] T)) : ((W.setCell ⟨g, 0, none⟩ v0).setCell ⟨g, 1, none⟩ v1).heap[g]? = some (.cells #[v0, v1] T) := by
  simpa using blk_set (o := 1) (v := v1) (blk_set (o := 0) (v := v0) h)
theorem bx_set4 {W : World} {g : Nat} {u0 u1 u2 u3 v0 v1 v2 v3 : Value} {T : TypeId} (h : W.heap[g]? = some (.cells #[u0, u1, u2, u3] T)) :
    ((((W.setCell ⟨g, 0, none⟩ v0).setCell ⟨g, 1, none⟩ v1).setCell ⟨g, 2, none⟩ v2).setCell ⟨g, 3, none⟩ v3).heap[g]? = some (.cells #[v0, v1, v2, v3] T) := by
  simpa using blk_set (o := 3) (v := v3) (blk_set (o := 2) (v := v2) (blk_set (o := 1) (v := v1) (blk_set (o := 0) (v := v0) h)))
theorem bx_far {W : World} {g g' o : Nat} {v : Value} (hne : g' ≠ g) : (W.setCell ⟨g, o, none⟩ v).heap[g']? = W.heap[g']? := Below.heap_setCell W ⟨g, o, none⟩ v g' hne
theorem bx_old {W : World} {g : Nat} {X : Obj} (h : W.heap[g]? = some X) (Y : Obj) : (W.alloc Y).heap[g]? = some X := by
  have hl : g < W.heap.size := by
    rcases Nat.lt_or_ge g W.heap.size with h' | h'
    · exact h'
    · rw [Array.getElem?_eq_none h'] at h; cases h
  rw [heap_alloc_old W Y hl]; exact h
theorem bx_new {W : World} {g : Nat} {X : Obj} (e : W.heap.size = g) : (W.alloc X).heap[g]? = some X := by subst e; exact heap_alloc_new W X
theorem bx_drew {W : World} {g : Nat} {X : Obj} (h : W.heap[g]? = some X) : W.drew.heap[g]? = some X := h
theorem bx_drewN {W : World} {g k : Nat} {X : Obj} (h : W.heap[g]? = some X) : (W.drewN k).heap[g]? = some X := h
theorem zFa {W : World} {g g' o : Nat} {v : Value} {R : Option Obj} (hne : g' ≠ g) (h : W.heap[g']? = R) : (W.setCell ⟨g, o, none⟩ v).heap[g']? = R := (bx_far hne).trans h
theorem zOl {W : World} {g : Nat} {X Y : Obj} (h : W.heap[g]? = some X) : (W.alloc Y).heap[g]? = some X := bx_old h Y
theorem bk2 {W : World} {g : Nat} {x y : Value} {T : TypeId} (h : W.heap[g]? = some (.cells #[x, y] T (0, 0))) : W.cell? ⟨g, 0, none⟩ = some x ∧ W.cell? ⟨g, 1, none⟩ = some y ∧ (∀ o, W.frozen? ⟨g, o, none⟩ = false) ∧ g < W.heap.size := ⟨blk_cell h 0, blk_cell h 1, blk_frozen h, blk_lt' h⟩
theorem bk3 {W : World} {g : Nat} {x y z : Value} {T : TypeId} (h : W.heap[g]? = some (.cells #[x, y, z] T (0, 0))) : W.cell? ⟨g, 0, none⟩ = some x ∧ W.cell? ⟨g, 1, none⟩ = some y ∧ W.cell? ⟨g, 2, none⟩ = some z ∧ (∀ o, W.frozen? ⟨g, o, none⟩ = false) ∧ g < W.heap.size := ⟨blk_cell h 0, blk_cell h 1, blk_cell h 2, blk_frozen h, blk_lt' h⟩
theorem bx_set3 {W : World} {g : Nat} {u0 u1 u2 v0 v1 v2 : Value} {T : TypeId} (h : W.heap[g]? = some (.cells #[u0, u1, u2] T)) : (((W.setCell ⟨g, 0, none⟩ v0).setCell ⟨g, 1, none⟩ v1).setCell ⟨g, 2, none⟩ v2).heap[g]? = some (.cells #[v0, v1, v2] T) := by
  simpa using blk_set (o := 2) (v := v2) (blk_set (o := 1) (v := v1) (blk_set (o := 0) (v := v0) h))
end Go.Proofs.YtnemnkbcbokafaaGreat
