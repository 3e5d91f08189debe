/- A cursor in memory: a block that holds a slice of bytes, a place and a seed; what calls of its methods may do to memory. No program in sight. -/
import Derived.Test.YtegiddpakocodaaDrawn5
import Derived.Test.YtegiddpakocodaaSl
namespace Go.Proofs.Ytegiddpakocodaa
open Go.RowKit
set_option linter.unusedVariables false
set_option linter.unusedSimpArgs false

/-- bytes that can be read, apart from the block g -/
def BytA (B g : Nat) (W : World) (s : Option Addr) (n : Nat) : Prop := 0 < n → ∃ b off, s = some ⟨b, off, none⟩ ∧ b < B ∧ b ≠ g ∧ ∀ j, j < n → ∃ x : Int, W.cell? ⟨b, off + j, none⟩ = some (.int .u8 x) ∧ 0 ≤ x ∧ x ≤ 255
/-- the cursor in block g, its place at most M -/
structure CurB (T : TypeId) (B g M : Nat) (W : World) : Prop where
  low : g < B
  size : B ≤ W.heap.size
  blk : ∃ s n c x y, W.heap[g]? = some (.cells #[.slice s n c, .int .i64 x, .int .u64 y] T (0, 0)) ∧ 0 ≤ x ∧ x ≤ (M : Int) ∧ BytA B g W s n ∧ n ≤ maxLen
theorem BytA.keep {B g : Nat} {W W2 : World} {s : Option Addr} {n : Nat} (h : BytA B g W s n) (hk : ∀ i, i < B → i ≠ g → W2.heap[i]? = W.heap[i]?) : BytA B g W2 s n := fun h0 => by
  obtain ⟨b, off, h1, h2, h3, h4⟩ := h h0
  refine ⟨b, off, h1, h2, h3, fun j hj => ?_⟩
  obtain ⟨x, h5, h6⟩ := h4 j hj
  exact ⟨x, (World.cell?_of_block (a := ⟨b, off + j, none⟩) (hk b h2 h3)).trans h5, h6⟩
section
variable {T : TypeId} {B g M : Nat} {W W2 w w1 w2 : World}
theorem CurB.same (h : CurB T B g M W) (hs : W.heap.size ≤ W2.heap.size) (hk : ∀ i, i < B → W2.heap[i]? = W.heap[i]?) : CurB T B g M W2 := by
  obtain ⟨s, n, c, x, y, h1, h2, h3, h4, h5⟩ := h.blk
  exact ⟨h.low, Nat.le_trans h.size hs, s, n, c, x, y, (hk g h.low).trans h1, h2, h3, h4.keep fun i hi _ => hk i hi, h5⟩
theorem CurB.step (hb : Below W.heap.size W W2) (h : CurB T B g M W) : CurB T B g M W2 := h.same hb.size fun i hi => hb.block i (Nat.lt_of_lt_of_le hi h.size)
theorem CurB.alloc (h : CurB T B g M W) (o : Obj) : CurB T B g M (W.alloc o) := h.step ((Below.refl _ _).alloc (Nat.le_refl _) o)
theorem CurB.drew (h : CurB T B g M W) : CurB T B g M W.drew := h.same (Nat.le_refl _) fun _ _ => rfl
theorem CurB.drewN (h : CurB T B g M W) (n : Nat) : CurB T B g M (W.drewN n) := h.same (Nat.le_refl _) fun _ _ => rfl
theorem CurB.set (h : CurB T B g M W) {a : Addr} (ha : B ≤ a.block) (x : Value) : CurB T B g M (W.setCell a x) :=
  h.same (by simp [World.setCell]) fun i hi => Below.heap_setCell W a x i (by omega)
theorem CurB.mono (h : CurB T B g M W) {M' : Nat} (hM : M ≤ M') : CurB T B g M' W := by
  obtain ⟨s, n, c, x, y, h1, h2, h3, h4, h5⟩ := h.blk
  exact ⟨h.low, h.size, s, n, c, x, y, h1, h2, by omega, h4, h5⟩

/-- what calls on the cursor leave: all blocks but its own as they were, its place on by at most k -/
structure CR (T : TypeId) (B g k : Nat) (w w' : World) : Prop where
  os : w'.os = w.os
  tape : w'.tape = w.tape
  output : w'.output = w.output
  size : w.heap.size ≤ w'.heap.size
  block : ∀ i, i < w.heap.size → i ≠ g → w'.heap[i]? = w.heap[i]?
  cur : ∀ M, CurB T B g M w → CurB T B g (M + k) w'
variable {j k : Nat}
theorem CR.refl (w : World) : CR T B g 0 w w := ⟨rfl, rfl, rfl, Nat.le_refl _, fun _ _ _ => rfl, fun _ h => h⟩
theorem CR.of_below (h : Below w.heap.size w w1) : CR T B g 0 w w1 := ⟨h.os, h.tape, h.output, h.size, fun i hi _ => h.block i hi, fun M hc => CurB.step h hc⟩
theorem CR.trans (h : CR T B g j w w1) (h2 : CR T B g k w1 w2) : CR T B g (j + k) w w2 :=
  ⟨h2.os.trans h.os, h2.tape.trans h.tape, h2.output.trans h.output, Nat.le_trans h.size h2.size, fun i hi hg => (h2.block i (Nat.lt_of_lt_of_le hi h.size) hg).trans (h.block i hi hg), fun M hc => by rw [← Nat.add_assoc]; exact h2.cur _ (h.cur _ hc)⟩
theorem CR.mono (hjk : j ≤ k) (h : CR T B g j w w1) : CR T B g k w w1 := ⟨h.os, h.tape, h.output, h.size, h.block, fun M hc => (h.cur M hc).mono (by omega)⟩
theorem CR.fin (h : CR T B g j w w1) (hjk : j ≤ k) : CR T B g k w w1 := h.mono hjk
theorem CR.via (hb : CR T B g k w1 w2) (h : CR T B g j w w1) : CR T B g (j + k) w w2 := h.trans hb
theorem CR.step (hb : Below w1.heap.size w1 w2) (h : CR T B g j w w1) : CR T B g j w w2 := h.trans (CR.of_below hb)
theorem CR.alloc (h : CR T B g j w w1) (o : Obj) : CR T B g j w (w1.alloc o) := CR.step ((Below.refl _ _).alloc (Nat.le_refl _) o) h
theorem CR.drew (h : CR T B g j w w1) : CR T B g j w w1.drew := ⟨h.os, h.tape, h.output, h.size, h.block, fun M hc => (h.cur M hc).drew⟩
theorem CR.drewN (h : CR T B g j w w1) (n : Nat) : CR T B g j w (w1.drewN n) := ⟨h.os, h.tape, h.output, h.size, h.block, fun M hc => (h.cur M hc).drewN n⟩
theorem CR.set (h : CR T B g j w w1) {a : Addr} (ha : w.heap.size ≤ a.block) (x : Value) : CR T B g j w (w1.setCell a x) :=
  ⟨h.os, h.tape, h.output, by have := h.size; simp [World.setCell]; omega, fun i hi hg => (Below.heap_setCell w1 a x i (by omega)).trans (h.block i hi hg), fun M hc => (h.cur M hc).set (by have := hc.size; omega) x⟩
theorem CurB.via (hb : CR T B g k w1 w2) (h : CurB T B g M w1) : CurB T B g (M + k) w2 := hb.cur M h
theorem CR.cell (h : CR T B g k w w1) (b : Nat) (hb : b < w.heap.size) (hg : b ≠ g) : ∀ o, w1.cell? ⟨b, o, none⟩ = w.cell? ⟨b, o, none⟩ := fun o => World.cell?_of_block (h.block b hb hg)
theorem CR.froz (h : CR T B g k w w1) (b : Nat) (hb : b < w.heap.size) (hg : b ≠ g) : ∀ o, w1.frozen? ⟨b, o, none⟩ = w.frozen? ⟨b, o, none⟩ := fun o => World.frozen?_of_block (h.block b hb hg)
theorem curCell' {C : Prop} (h : CR T B g k w w1) (b o : Nat) (hb : b < w.heap.size) (hp : b ≠ g) (c : w1.cell? ⟨b, o, none⟩ = w.cell? ⟨b, o, none⟩ → C) : C := c (h.cell b hb hp o)
theorem curFroz' {C : Prop} (h : CR T B g k w w1) (b : Nat) (hb : b < w.heap.size) (hp : b ≠ g) (c : (∀ o, w1.frozen? ⟨b, o, none⟩ = w.frozen? ⟨b, o, none⟩) → C) : C := c (h.froz b hb hp)
theorem cr_blk (h : CR T B g k w w1) {b : Nat} {X : Obj} (e : w.heap[b]? = some X) (hp : b ≠ g) : w1.heap[b]? = some X := (h.block b (blk_lt' e) hp).trans e
/-- a cursor that the call itself has made: nothing below it has changed -/
theorem cr_below {C : Nat} (hb : CR T B g k w1 w2) (h : Below C w w1) (hC : C ≤ w1.heap.size) (hg : C ≤ g) : Below C w w2 :=
  ⟨hb.os.trans h.os, hb.tape.trans h.tape, hb.output.trans h.output, Nat.le_trans h.size hb.size, fun i hi => (hb.block i (by omega) (by omega)).trans (h.block i hi)⟩
def curRel (T : TypeId) (B g : Nat) : Rel := ⟨fun k a b => CR T B g k a b, CR.of_below, CR.trans, CR.mono, CR.size⟩
/-- a new cursor -/
theorem CurB.new {W : World} {s : Option Addr} {n c : Nat} {y : Int} (h : BytA W.heap.size W.heap.size W s n) (hn : n ≤ maxLen) :
    CurB T (W.heap.size + 1) W.heap.size 0 (W.alloc (.cells #[.slice s n c, .int .i64 0, .int .u64 y] T (0, 0))) := by
  refine ⟨by omega, by simp, s, n, c, 0, y, heap_alloc_new _ _, by omega, by omega, fun h0 => ?_, hn⟩
  obtain ⟨b, off, h1, h2, h3, h4⟩ := h h0
  refine ⟨b, off, h1, by omega, h3, fun j hj => ?_⟩
  obtain ⟨x, h5, h6⟩ := h4 j hj
  exact ⟨x, (World.cell?_of_block (a := ⟨b, off + j, none⟩) (Below.heap_alloc _ _ _ h2)).trans h5, h6⟩
end
/-- bytes of an argument -/
structure ByW (w : World) (s : Option Addr) (n : Nat) : Prop where
  row : 0 < n → ∃ b off, s = some ⟨b, off, none⟩ ∧ b < w.heap.size ∧ ∀ j, j < n → ∃ x : Int, w.cell? ⟨b, off + j, none⟩ = some (.int .u8 x) ∧ 0 ≤ x ∧ x ≤ 255
  max : n ≤ maxLen
theorem ByW.byt {w W : World} {s : Option Addr} {n : Nat} (h : ByW w s n) (hb : Below w.heap.size w W) : BytA W.heap.size W.heap.size W s n := fun h0 => by
  obtain ⟨b, off, h1, h2, h3⟩ := h.row h0
  have := hb.size
  refine ⟨b, off, h1, by omega, by omega, fun j hj => ?_⟩
  obtain ⟨x, h4, h5⟩ := h3 j hj
  exact ⟨x, (hb.cell (p := ⟨b, off + j, none⟩) h2).trans h4, h5⟩
theorem ByW.below {w W : World} {s : Option Addr} {n : Nat} (h : ByW w s n) (hb : Below w.heap.size w W) : ByW W s n := ⟨fun h0 => by
  obtain ⟨b, off, h1, h2, h3⟩ := h.row h0
  have := hb.size
  refine ⟨b, off, h1, by omega, fun j hj => ?_⟩
  obtain ⟨x, h4, h5⟩ := h3 j hj
  exact ⟨x, (hb.cell (p := ⟨b, off + j, none⟩) h2).trans h4, h5⟩, h.max⟩
/-- all values are integers of which p holds -/
def AllInt (p : Int → Prop) : List Value → Prop
  | [] => True
  | v :: l => (∃ x : Int, v = .int .i64 x ∧ p x) ∧ AllInt p l
theorem AllInt.at {p : Int → Prop} : ∀ {l : List Value}, AllInt p l → ∀ j, j < l.length → ∃ x : Int, l[j]? = some (.int .i64 x) ∧ p x
  | [], _, j, hj => by simp at hj
  | v :: l, h, 0, _ => by obtain ⟨⟨x, rfl, hx⟩, _⟩ := h; exact ⟨x, rfl, hx⟩
  | v :: l, h, j + 1, hj => by obtain ⟨x, h1, h2⟩ := AllInt.at h.2 j (by simp at hj; omega); exact ⟨x, by simpa using h1, h2⟩
end Go.Proofs.Ytegiddpakocodaa
