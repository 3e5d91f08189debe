/- Slices whose rows are a call's own, and rows that lie apart. No program in sight. -/
import Derived.Test.YtijpfnkhaldfeaaMk
namespace Go.Proofs.Ytijpfnkhaldfeaa
open Go.RowKit
set_option linter.unusedVariables false
set_option maxHeartbeats 4000000
set_option maxRecDepth 20000
set_option linter.unusedSimpArgs false
/-- the row of a slice is the call's own -/
def OwS (W : World) (B : Nat) (a : Option Addr) (n c : Nat) (zs : List Int) : Prop := OwnI W B 3 (.slice a n c) zs
theorem OwS.below {W W2 : World} {B : Nat} {a : Option Addr} {n c : Nat} {zs : List Int} (h : OwS W B a n c zs) (hb : Below W.heap.size W W2) : OwS W2 B a n c zs := OwnI.below h hb
theorem OwS.low {W : World} {B B' : Nat} {a : Option Addr} {n c : Nat} {zs : List Int} (h : OwS W B a n c zs) (hB : B' ≤ B) : OwS W B' a n c zs :=
  ⟨h.1, h.2.imp id fun ⟨g, cap, cur, hv, hb, rest⟩ => ⟨g, cap, cur, hv, Nat.le_trans hB hb, rest⟩⟩
theorem OwS.out {W W2 : World} {B B' : Nat} {a : Option Addr} {n c : Nat} {zs : List Int} (h : OwS W B a n c zs) (hb : Below W.heap.size W W2) (hB : B' ≤ B) : OwS W2 B' a n c zs := (h.below hb).low hB
/-- the address of an own row: no offset, a block between B and the world's end -/
theorem OwS.lies {W : World} {B : Nat} {a : Option Addr} {n c : Nat} {zs : List Int} (h : OwS W B a n c zs) : ∀ A, a = some A → B ≤ A.block ∧ A.block < W.heap.size := fun A e => by
  rcases OwnI.shape h with ⟨h1, -⟩ | ⟨g, cap, h1, -, -, h2, h3, -⟩
  · simp only [Value.slice.injEq] at h1
    rw [h1.1] at e; cases e
  · simp only [Value.slice.injEq] at h1
    rw [h1.1] at e; cases e
    exact ⟨h2, h3⟩
theorem OwS.setFar {W : World} {B : Nat} {a : Option Addr} {n c : Nat} {zs : List Int} (h : OwS W B a n c zs) {g : Nat} (hg : ∀ A, a = some A → A.block ≠ g) (o : Nat) (u : Value) : OwS (W.setCell ⟨g, o, none⟩ u) B a n c zs := by
  obtain ⟨hl, h2⟩ := h
  refine ⟨hl, ?_⟩
  rcases h2 with h1 | ⟨g2, cap, c2, hv, hB, hg2, rest⟩
  · exact .inl h1
  · refine .inr ⟨g2, cap, c2, hv, hB, ?_, rest⟩
    have hne : g2 ≠ g := by
      simp only [Value.slice.injEq] at hv
      exact hg _ hv.1
    rw [← hg2]
    exact Below.heap_setCell W ⟨g, o, none⟩ u g2 hne
theorem OwS.setLow {W : World} {B : Nat} {a : Option Addr} {n c : Nat} {zs : List Int} (h : OwS W B a n c zs) {g : Nat} (hg : g < B) (o : Nat) (u : Value) : OwS (W.setCell ⟨g, o, none⟩ u) B a n c zs :=
  h.setFar (fun A e he => by have := (h.lies A e).1; omega) o u
theorem OwS.alloc {W : World} {B : Nat} {a : Option Addr} {n c : Nat} {zs : List Int} (h : OwS W B a n c zs) (X : Obj) : OwS (W.alloc X) B a n c zs := h.below ((Below.refl _ _).alloc (Nat.le_refl _) X)
theorem OwS.drew {W : World} {B : Nat} {a : Option Addr} {n c : Nat} {zs : List Int} (h : OwS W B a n c zs) : OwS W.drew B a n c zs := h.below (Below.refl _ _).drew
theorem OwS.drewN {W : World} {B : Nat} {a : Option Addr} {n c : Nat} {zs : List Int} (h : OwS W B a n c zs) (k : Nat) : OwS (W.drewN k) B a n c zs := h.below (below_drewN (Below.refl _ _) k)
theorem blkVia {W V : World} {g : Nat} (h : Below W.heap.size W V) (hg : g < W.heap.size) : V.heap[g]? = W.heap[g]? := h.block g hg
/-- two rows lie in different blocks -/
def farA (a a2 : Option Addr) : Prop := ∀ A A2, a = some A → a2 = some A2 → A.block ≠ A2.block
theorem farA.symm {a a2 : Option Addr} (h : farA a a2) : farA a2 a := fun A A2 h1 h2 e => h A2 A h2 h1 e.symm
/-- an own row of an earlier world, and one of a later call -/
theorem OwS.far {W W2 : World} {B B2 : Nat} {a a2 : Option Addr} {n c n2 c2 : Nat} {zs ys : List Int} (h : OwS W B a n c zs) (h2 : OwS W2 B2 a2 n2 c2 ys) (hB : W.heap.size ≤ B2) : farA a a2 := fun A A2 e1 e2 => by
  have k1 := h.lies A e1
  have k2 := h2.lies A2 e2
  omega
end Go.Proofs.Ytijpfnkhaldfeaa
