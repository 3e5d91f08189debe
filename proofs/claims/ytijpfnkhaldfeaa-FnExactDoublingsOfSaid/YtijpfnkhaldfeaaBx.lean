/- Variables that hold whole numbers and ratios, as blocks known whole; a world that is named anew. No program in sight. -/
import Derived.Test.YtijpfnkhaldfeaaBg6
namespace Go.Proofs.Ytijpfnkhaldfeaa
open Go.RowKit
set_option linter.unusedVariables false
set_option linter.unusedSimpArgs false
theorem chk {P : Program} {code : Code} {Q : Exit → Act → World → Prop} {a : Act} {E : World} (F : World → Prop) (h : F E) (k : ∀ W, F W → code.wp P Q a W) : code.wp P Q a E := k E h
theorem bx_set1 {W : World} {g : Nat} {u0 v0 : Value} {T : TypeId} (h : W.heap[g]? = some (.cells #[u0] T)) : (W.setCell ⟨g, 0, none⟩ v0).heap[g]? = some (.cells #[v0] T) := by
  simpa using blk_set (o := 0) (v := v0) h
theorem bx_set2 {W : World} {g : Nat} {u0 u1 v0 v1 : Value} {T : TypeId} (h : W.heap[g]? = some (.cells #[u0, u1] T)) : ((W.setCell ⟨g, 0, none⟩ v0).setCell ⟨g, 1, none⟩ v1).heap[g]? = some (.cells #[v0, v1] T) := by
  simpa using blk_set (o := 1) (v := v1) (blk_set (o := 0) (v := v0) h)
theorem bx_set4 {W : World} {g : Nat} {u0 u1 u2 u3 v0 v1 v2 v3 : Value} {T : TypeId} (h : W.heap[g]? = some (.cells #[u0, u1, u2, u3] T)) :
    ((((W.setCell ⟨g, 0, none⟩ v0).setCell ⟨g, 1, none⟩ v1).setCell ⟨g, 2, none⟩ v2).setCell ⟨g, 3, none⟩ v3).heap[g]? = some (.cells #[v0, v1, v2, v3] T) := by
  simpa using blk_set (o := 3) (v := v3) (blk_set (o := 2) (v := v2) (blk_set (o := 1) (v := v1) (blk_set (o := 0) (v := v0) h)))
theorem bx_far {W : World} {g g' o : Nat} {v : Value} (hne : g' ≠ g) : (W.setCell ⟨g, o, none⟩ v).heap[g']? = W.heap[g']? := Below.heap_setCell W ⟨g, o, none⟩ v g' hne
theorem bx_old {W : World} {g : Nat} {X : Obj} (h : W.heap[g]? = some X) (Y : Obj) : (W.alloc Y).heap[g]? = some X := by
  have hl : g < W.heap.size := by
    rcases Nat.lt_or_ge g W.heap.size with h' | h'
    · exact h'
    · rw [Array.getElem?_eq_none h'] at h; cases h
  rw [heap_alloc_old W Y hl]; exact h
theorem bx_new {W : World} {g : Nat} {X : Obj} (e : W.heap.size = g) : (W.alloc X).heap[g]? = some X := by subst e; exact heap_alloc_new W X
theorem bx_drew {W : World} {g : Nat} {X : Obj} (h : W.heap[g]? = some X) : W.drew.heap[g]? = some X := h
theorem bx_drewN {W : World} {g k : Nat} {X : Obj} (h : W.heap[g]? = some X) : (W.drewN k).heap[g]? = some X := h
def NoInt (cs : Array Value) : Prop := ∀ (o : Nat) (z : Int), cs[o]? ≠ some (.int .i64 z)
theorem SlA.setN {W : World} {a : Option Addr} {zs : List Int} (h : SlA W a zs) {g : Nat} {cs : Array Value} {T : TypeId} (hk : W.heap[g]? = some (.cells cs T)) (hn : NoInt cs) (o : Nat) (v : Value) : SlA (W.setCell ⟨g, o, Option.none⟩ v) a zs := fun h0 => by
  obtain ⟨b, off, h1, h2, h3⟩ := h h0
  have hne : b ≠ g := fun e => by
    subst e
    have := h3 0 h0
    rw [cell_of_row W b (off + 0) cs T (0, 0) hk] at this
    exact hn _ _ this
  refine ⟨b, off, h1, by simpa [World.setCell] using h2, fun j hj => ?_⟩
  rw [← h3 j hj]
  exact World.cell?_of_block (a := ⟨b, off + j, Option.none⟩) (Below.heap_setCell W ⟨g, o, Option.none⟩ v b hne)
theorem Wx.setN {W : World} {b : Bool} {a : Option Addr} {n c : Nat} {z : Int} (h : Wx W b a n c z) {g : Nat} {cs : Array Value} {T : TypeId} (hk : W.heap[g]? = some (.cells cs T)) (hn : NoInt cs) (o : Nat) (v : Value) : Wx (W.setCell ⟨g, o, Option.none⟩ v) b a n c z :=
  ⟨h.neg, ⟨h.row.len, h.row.cap, h.row.max, h.row.nil, h.row.row.setN hk hn o v⟩⟩
theorem noInt2 (b : Bool) (a : Option Addr) (n c : Nat) : NoInt #[.bool b, .slice a n c] := fun o z => by
  match o with
  | 0 => simp
  | 1 => simp
  | k + 2 => simp
theorem noInt4 (b b2 : Bool) (a a2 : Option Addr) (n c n2 c2 : Nat) : NoInt #[.bool b, .slice a n c, .bool b2, .slice a2 n2 c2] := fun o z => by
  match o with
  | 0 => simp
  | 1 => simp
  | 2 => simp
  | 3 => simp
  | k + 4 => simp
theorem Wx.box {W : World} {b : Bool} {a : Option Addr} {n c : Nat} {z : Int} {g : Nat} {b0 b1 : Bool} {a0 a1 : Option Addr} {n0 c0 n1 c1 : Nat} {T : TypeId} (h : Wx W b a n c z) (hk : W.heap[g]? = some (.cells #[.bool b0, .slice a0 n0 c0] T)) :
    Wx ((W.setCell ⟨g, 0, none⟩ (.bool b1)).setCell ⟨g, 1, none⟩ (.slice a1 n1 c1)) b a n c z :=
  (h.setN hk (noInt2 _ _ _ _) 0 _).setN (by simpa using blk_set (o := 0) (v := .bool b1) hk) (noInt2 b1 a0 n0 c0) 1 _
theorem Wx.box4 {W : World} {b : Bool} {a : Option Addr} {n c : Nat} {z : Int} {g : Nat} {b0 b1 b2 b3 : Bool} {a0 a1 a2 a3 : Option Addr} {n0 c0 n1 c1 n2 c2 n3 c3 : Nat} {T : TypeId} (h : Wx W b a n c z) (hk : W.heap[g]? = some (.cells #[.bool b0, .slice a0 n0 c0, .bool b1, .slice a1 n1 c1] T)) :
    Wx ((((W.setCell ⟨g, 0, none⟩ (.bool b2)).setCell ⟨g, 1, none⟩ (.slice a2 n2 c2)).setCell ⟨g, 2, none⟩ (.bool b3)).setCell ⟨g, 3, none⟩ (.slice a3 n3 c3)) b a n c z := by
  have k1 := blk_set (o := 0) (v := .bool b2) hk
  have k2 := blk_set (o := 1) (v := .slice a2 n2 c2) k1
  have k3 := blk_set (o := 2) (v := .bool b3) k2
  simp at k1 k2 k3
  exact (((h.setN hk (noInt4 _ _ _ _ _ _ _ _) 0 _).setN k1 (noInt4 _ _ _ _ _ _ _ _) 1 _).setN k2 (noInt4 _ _ _ _ _ _ _ _) 2 _).setN k3 (noInt4 _ _ _ _ _ _ _ _) 3 _
theorem Wx.alloc {W : World} {b : Bool} {a : Option Addr} {n c : Nat} {z : Int} (h : Wx W b a n c z) (X : Obj) : Wx (W.alloc X) b a n c z := ⟨h.neg, h.row.alloc X⟩
theorem Wx.drew {W : World} {b : Bool} {a : Option Addr} {n c : Nat} {z : Int} (h : Wx W b a n c z) : Wx W.drew b a n c z := ⟨h.neg, h.row.drew⟩
theorem Wx.drewN {W : World} {b : Bool} {a : Option Addr} {n c : Nat} {z : Int} (h : Wx W b a n c z) (k : Nat) : Wx (W.drewN k) b a n c z := h.below (below_drewN (Below.refl _ _) k)
theorem zFa {W : World} {g g' o : Nat} {v : Value} {R : Option Obj} (hne : g' ≠ g) (h : W.heap[g']? = R) : (W.setCell ⟨g, o, none⟩ v).heap[g']? = R := (bx_far hne).trans h
theorem zOl {W : World} {g : Nat} {X Y : Obj} (h : W.heap[g]? = some X) : (W.alloc Y).heap[g]? = some X := bx_old h Y
theorem zWa {W : World} {b : Bool} {a : Option Addr} {n c : Nat} {z : Int} {X : Obj} (h : Wx W b a n c z) : Wx (W.alloc X) b a n c z := h.alloc X
theorem zWn {W : World} {b : Bool} {a : Option Addr} {n c k : Nat} {z : Int} (h : Wx W b a n c z) : Wx (W.drewN k) b a n c z := h.drewN k
theorem bk1 {W : World} {g : Nat} {x : Value} {T : TypeId} (h : W.heap[g]? = some (.cells #[x] T (0, 0))) : W.cell? ⟨g, 0, none⟩ = some x ∧ (∀ o, W.frozen? ⟨g, o, none⟩ = false) ∧ g < W.heap.size := ⟨blk_cell h 0, blk_frozen h, blk_lt' h⟩
theorem bk2 {W : World} {g : Nat} {x y : Value} {T : TypeId} (h : W.heap[g]? = some (.cells #[x, y] T (0, 0))) : W.cell? ⟨g, 0, none⟩ = some x ∧ W.cell? ⟨g, 1, none⟩ = some y ∧ (∀ o, W.frozen? ⟨g, o, none⟩ = false) ∧ g < W.heap.size := ⟨blk_cell h 0, blk_cell h 1, blk_frozen h, blk_lt' h⟩
theorem bk3 {W : World} {g : Nat} {x y z : Value} {T : TypeId} (h : W.heap[g]? = some (.cells #[x, y, z] T (0, 0))) : W.cell? ⟨g, 0, none⟩ = some x ∧ W.cell? ⟨g, 1, none⟩ = some y ∧ W.cell? ⟨g, 2, none⟩ = some z ∧ (∀ o, W.frozen? ⟨g, o, none⟩ = false) ∧ g < W.heap.size := ⟨blk_cell h 0, blk_cell h 1, blk_cell h 2, blk_frozen h, blk_lt' h⟩
theorem bk4 {W : World} {g : Nat} {x y z u : Value} {T : TypeId} (h : W.heap[g]? = some (.cells #[x, y, z, u] T (0, 0))) : W.cell? ⟨g, 0, none⟩ = some x ∧ W.cell? ⟨g, 1, none⟩ = some y ∧ W.cell? ⟨g, 2, none⟩ = some z ∧ W.cell? ⟨g, 3, none⟩ = some u ∧ (∀ o, W.frozen? ⟨g, o, none⟩ = false) ∧ g < W.heap.size := ⟨blk_cell h 0, blk_cell h 1, blk_cell h 2, blk_cell h 3, blk_frozen h, blk_lt' h⟩
/-- a contract whose value is a ratio of two whole numbers -/
def NewR (w : World) (x z : Int) (e : Ending) (w' : World) : Prop := ∃ b a n c b2 a2 n2 c2, e = .returned (.agg #[.bool b, .slice a n c, .bool b2, .slice a2 n2 c2]) ∧ Wx w' b a n c x ∧ Wx w' b2 a2 n2 c2 z ∧ Below w.heap.size w w'
def openR (x z : Int) : St where
  ok v W := ∃ b a n c b2 a2 n2 c2, v = .agg #[.bool b, .slice a n c, .bool b2, .slice a2 n2 c2] ∧ Wx W b a n c x ∧ Wx W b2 a2 n2 c2 z
  keep v W W2 h hb := by
    obtain ⟨b, a, n, c, b2, a2, n2, c2, h1, h2, h3⟩ := h
    exact ⟨b, a, n, c, b2, a2, n2, c2, h1, h2.below hb, h3.below hb⟩
theorem open_R {P : Program} {f : FuncId} {args : Array Value} {W : World} {x z : Int} (h : Calls P f args W (NewR W x z)) : Calls P f args W fun e w' => ∃ v, e = .returned v ∧ (openR x z).ok v w' ∧ Below W.heap.size W w' :=
  h.mono fun e w' ⟨b, a, n, c, b2, a2, n2, c2, h1, h2, h3, h4⟩ => ⟨_, h1, ⟨b, a, n, c, b2, a2, n2, c2, rfl, h2, h3⟩, h4⟩
theorem ln_sub_le {a b : Int} {k : Nat} (ha : ln a ≤ k) (hb : ln b ≤ k) : ln (a - b) ≤ k + 1 := by
  rw [show a - b = a + -b by omega]; exact ln_add_le ha (by rw [ln_neg]; exact hb)
end Go.Proofs.Ytijpfnkhaldfeaa
