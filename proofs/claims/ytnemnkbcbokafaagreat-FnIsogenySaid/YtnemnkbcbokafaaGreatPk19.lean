/- Lemmas and contracts of functions. No condition. -/
import Derived.Test.YtnemnkbcbokafaaGreatPk1
import Derived.Test.YtnemnkbcbokafaaGreatPk14
import Derived.Deep.Slices
import Derived.Lib.SmallJoins
import Derived.OpenShut
import Derived.ProofKit
import Derived.Test.YtnemnkbcbokafaaGreatRows
import Derived.WalkKit
namespace Go.Proofs.YtnemnkbcbokafaaGreat
section
open Go.RowKit
set_option linter.unusedVariables false
set_option linter.unusedSimpArgs false

/-- bytes that can be read, apart from the block g -/
def BytA (B g : Nat) (W : World) (s : Option Addr) (n : Nat) : Prop := 0 < n → ∃ b off, s = some ⟨b, off, none⟩ ∧ b < B ∧ b ≠ g ∧ ∀ j, j < n → ∃ x : Int, W.cell? ⟨b, off + j, none⟩ = some (.int .u8 x) ∧ 0 ≤ x ∧ x ≤ 255
/-- the cursor in block g, its place at most M -/
structure CurB (T : TypeId) (B g M : Nat) (W : World) : Prop where
  low : g < B
  size : B ≤ W.heap.size
  blk : ∃ s n c x y, W.heap[g]? = some (.cells #[.slice s n c, .int .i64 x, .int .u64 y] T (0, 0)) ∧ 0 ≤ x ∧ x ≤ (M : Int) ∧ BytA B g W s n ∧ n ≤ maxLen
theorem BytA.keep {B g : Nat} {W W2 : World} {s : Option Addr} {n : Nat} (h : BytA B g W s n) (hk : ∀ i, i < B → i ≠ g → W2.heap[i]? = W.heap[i]?) : BytA B g W2 s n := fun h0 => by
  obtain ⟨b, off, h1, h2, h3, h4⟩ := h h0
  refine ⟨b, off, h1, h2, h3, fun j hj => ?_⟩
  obtain ⟨x, h5, h6⟩ := h4 j hj
  exact ⟨x, (World.cell?_of_block (a := ⟨b, off + j, none⟩) (hk b h2 h3)).trans h5, h6⟩
section
variable {T : TypeId} {B g M : Nat} {W W2 w w1 w2 : World}
theorem CurB.same (h : CurB T B g M W) (hs : W.heap.size ≤ W2.heap.size) (hk : ∀ i, i < B → W2.heap[i]? = W.heap[i]?) : CurB T B g M W2 := by
  obtain ⟨s, n, c, x, y, h1, h2, h3, h4, h5⟩ := h.blk
  exact ⟨h.low, Nat.le_trans h.size hs, s, n, c, x, y, (hk g h.low).trans h1, h2, h3, h4.keep fun i hi _ => hk i hi, h5⟩
theorem CurB.step (hb : Below W.heap.size W W2) (h : CurB T B g M W) : CurB T B g M W2 := h.same hb.size fun i hi => hb.block i (Nat.lt_of_lt_of_le hi h.size)
theorem CurB.alloc (h : CurB T B g M W) (o : Obj) : CurB T B g M (W.alloc o) := h.step ((Below.refl _ _).alloc (Nat.le_refl _) o)
theorem CurB.drew (h : CurB T B g M W) : CurB T B g M W.drew := h.same (Nat.le_refl _) fun _ _ => rfl
theorem CurB.drewN (h : CurB T B g M W) (n : Nat) : CurB T B g M (W.drewN n) := h.same (Nat.le_refl _) fun _ _ => rfl
theorem CurB.set (h : CurB T B g M W) {a : Addr} (ha : B ≤ a.block) (x : Value) : CurB T B g M (W.setCell a x) :=
  h.same (by simp [World.setCell]) fun i hi => Below.heap_setCell W a x i (by omega)
theorem CurB.mono (h : CurB T B g M W) {M' : Nat} (hM : M ≤ M') : CurB T B g M' W := by
  obtain ⟨s, n, c, x, y, h1, h2, h3, h4, h5⟩ := h.blk
  exact ⟨h.low, h.size, s, n, c, x, y, h1, h2, by omega, h4, h5⟩

/-- what calls on the cursor leave: all blocks but its own as they were, its place on by at most k -/
structure CR (T : TypeId) (B g k : Nat) (w w' : World) : Prop where
  os : w'.os = w.os
  tape : w'.tape = w.tape
  output : w'.output = w.output
  size : w.heap.size ≤ w'.heap.size
  block : ∀ i, i < w.heap.size → i ≠ g → w'.heap[i]? = w.heap[i]?
  cur : ∀ M, CurB T B g M w → CurB T B g (M + k) w'
variable {j k : Nat}
theorem CR.refl (w : World) : CR T B g 0 w w := ⟨rfl, rfl, rfl, Nat.le_refl _, fun _ _ _ => rfl, fun _ h => h⟩
theorem CR.of_below (h : Below w.heap.size w w1) : CR T B g 0 w w1 := ⟨h.os, h.tape, h.output, h.size, fun i hi _ => h.block i hi, fun M hc => CurB.step h hc⟩
theorem CR.trans (h : CR T B g j w w1) (h2 : CR T B g k w1 w2) : CR T B g (j + k) w w2 :=
  ⟨h2.os.trans h.os, h2.tape.trans h.tape, h2.output.trans h.output, Nat.le_trans h.size h2.size, fun i hi hg => (h2.block i (Nat.lt_of_lt_of_le hi h.size) hg).trans (h.block i hi hg), fun M hc => by rw [← Nat.add_assoc]; exact h2.cur _ (h.cur _ hc)⟩
theorem CR.mono (hjk : j ≤ k) (h : CR T B g j w w1) : CR T B g k w w1 := ⟨h.os, h.tape, h.output, h.size, h.block, fun M hc => (h.cur M hc).mono (by omega)⟩
theorem CR.fin (h : CR T B g j w w1) (hjk : j ≤ k) : CR T B g k w w1 := h.mono hjk
theorem CR.via (hb : CR T B g k w1 w2) (h : CR T B g j w w1) : CR T B g (j + k) w w2 := h.trans hb
theorem CR.step (hb : Below w1.heap.size w1 w2) (h : CR T B g j w w1) : CR T B g j w w2 := h.trans (CR.of_below hb)
theorem CR.alloc (h : CR T B g j w w1) (o : Obj) : CR T B g j w (w1.alloc o) := CR.step ((Below.refl _ _).alloc (Nat.le_refl _) o) h
theorem CR.drew (h : CR T B g j w w1) : CR T B g j w w1.drew := ⟨h.os, h.tape, h.output, h.size, h.block, fun M hc => (h.cur M hc).drew⟩
theorem CR.drewN (h : CR T B g j w w1) (n : Nat) : CR T B g j w (w1.drewN n) := ⟨h.os, h.tape, h.output, h.size, h.block, fun M hc => (h.cur M hc).drewN n⟩
theorem CR.set (h : CR T B g j w w1) {a : Addr} (ha : w.heap.size ≤ a.block) (x : Value) : CR T B g j w (w1.setCell a x) :=
  ⟨h.os, h.tape, h.output, by have := h.size; simp [World.setCell]; omega, fun i hi hg => (Below.heap_setCell w1 a x i (by omega)).trans (h.block i hi hg), fun M hc => (h.cur M hc).set (by have := hc.size; omega) x⟩
theorem CurB.via (hb : CR T B g k w1 w2) (h : CurB T B g M w1) : CurB T B g (M + k) w2 := hb.cur M h
theorem CR.cell (h : CR T B g k w w1) (b : Nat) (hb : b < w.heap.size) (hg : b ≠ g) : ∀ o, w1.cell? ⟨b, o, none⟩ = w.cell? ⟨b, o, none⟩ := fun o => World.cell?_of_block (h.block b hb hg)
theorem CR.froz (h : CR T B g k w w1) (b : Nat) (hb : b < w.heap.size) (hg : b ≠ g) : ∀ o, w1.frozen? ⟨b, o, none⟩ = w.frozen? ⟨b, o, none⟩ := fun o => World.frozen?_of_block (h.block b hb hg)
theorem curCell' {C : Prop} (h : CR T B g k w w1) (b o : Nat) (hb : b < w.heap.size) (hp : b ≠ g) (c : w1.cell? ⟨b, o, none⟩ = w.cell? ⟨b, o, none⟩ → C) : C := c (h.cell b hb hp o)
theorem curFroz' {C : Prop} (h : CR T B g k w w1) (b : Nat) (hb : b < w.heap.size) (hp : b ≠ g) (c : (∀ o, w1.frozen? ⟨b, o, none⟩ = w.frozen? ⟨b, o, none⟩) → C) : C := c (h.froz b hb hp)
/-- a cursor that the call itself has made: nothing below it has changed -/
theorem cr_below {C : Nat} (hb : CR T B g k w1 w2) (h : Below C w w1) (hC : C ≤ w1.heap.size) (hg : C ≤ g) : Below C w w2 :=
  ⟨hb.os.trans h.os, hb.tape.trans h.tape, hb.output.trans h.output, Nat.le_trans h.size hb.size, fun i hi => (hb.block i (by omega) (by omega)).trans (h.block i hi)⟩
/-- a new cursor -/
theorem CurB.new {W : World} {s : Option Addr} {n c : Nat} {y : Int} (h : BytA W.heap.size W.heap.size W s n) (hn : n ≤ maxLen) :
    CurB T (W.heap.size + 1) W.heap.size 0 (W.alloc (.cells #[.slice s n c, .int .i64 0, .int .u64 y] T (0, 0))) := by
  refine ⟨by omega, by simp, s, n, c, 0, y, heap_alloc_new _ _, by omega, by omega, fun h0 => ?_, hn⟩
  obtain ⟨b, off, h1, h2, h3, h4⟩ := h h0
  refine ⟨b, off, h1, by omega, h3, fun j hj => ?_⟩
  obtain ⟨x, h5, h6⟩ := h4 j hj
  exact ⟨x, (World.cell?_of_block (a := ⟨b, off + j, none⟩) (Below.heap_alloc _ _ _ h2)).trans h5, h6⟩
end
/-- bytes of an argument -/
structure ByW (w : World) (s : Option Addr) (n : Nat) : Prop where
  row : 0 < n → ∃ b off, s = some ⟨b, off, none⟩ ∧ b < w.heap.size ∧ ∀ j, j < n → ∃ x : Int, w.cell? ⟨b, off + j, none⟩ = some (.int .u8 x) ∧ 0 ≤ x ∧ x ≤ 255
  max : n ≤ maxLen
theorem ByW.byt {w W : World} {s : Option Addr} {n : Nat} (h : ByW w s n) (hb : Below w.heap.size w W) : BytA W.heap.size W.heap.size W s n := fun h0 => by
  obtain ⟨b, off, h1, h2, h3⟩ := h.row h0
  have := hb.size
  refine ⟨b, off, h1, by omega, by omega, fun j hj => ?_⟩
  obtain ⟨x, h4, h5⟩ := h3 j hj
  exact ⟨x, (hb.cell (p := ⟨b, off + j, none⟩) h2).trans h4, h5⟩
theorem ByW.below {w W : World} {s : Option Addr} {n : Nat} (h : ByW w s n) (hb : Below w.heap.size w W) : ByW W s n := ⟨fun h0 => by
  obtain ⟨b, off, h1, h2, h3⟩ := h.row h0
  have := hb.size
  refine ⟨b, off, h1, by omega, fun j hj => ?_⟩
  obtain ⟨x, h4, h5⟩ := h3 j hj
  exact ⟨x, (hb.cell (p := ⟨b, off + j, none⟩) h2).trans h4, h5⟩, h.max⟩
/-- all values are integers of which p holds -/
def AllInt (p : Int → Prop) : List Value → Prop
  | [] => True
  | v :: l => (∃ x : Int, v = .int .i64 x ∧ p x) ∧ AllInt p l
theorem AllInt.at {p : Int → Prop} : ∀ {l : List Value}, AllInt p l → ∀ j, j < l.length → ∃ x : Int, l[j]? = some (.int .i64 x) ∧ p x
  | [], _, j, hj => by simp at hj
  | v :: l, h, 0, _ => by obtain ⟨⟨x, rfl, hx⟩, _⟩ := h; exact ⟨x, rfl, hx⟩
  | v :: l, h, j + 1, hj => by obtain ⟨x, h1, h2⟩ := AllInt.at h.2 j (by simp at hj; omega); exact ⟨x, by simpa using h1, h2⟩
end
section
open Go.ChangeShapes Go.WideShapes Go.ChangeAt Go.RowKit Go.Deep
set_option linter.unusedVariables false
set_option linter.unusedSimpArgs false
section
variable {H : Type} {enc : TypeId × Value → H} {P : Program} {w : World} {base : Nat} {spare : Nat → Bool} {held : Bool}
theorem open_bytes {t e : TypeId} {fuel : Nat} {cs : List Value} {x : DataW H × List MemPlace} (ht : P.underlying t = some (.slice e)) (he : P.underlying e = some (.int .u8)) (hC : P.cellsOf e = 1)
    (h : DataW.trod enc P w base spare held fuel t cs = some x) : ∃ a n c, cs = [.slice a n c] ∧ ByW w a n := by
  rcases open_slice ht h with ⟨rfl, _⟩ | ⟨a, len, cap, m, n, D, Pl, hcs, hb, hl, hm, hmm, hx, hi⟩
  · exact ⟨none, 0, 0, rfl, fun h => absurd h (by omega), Nat.zero_le _⟩
  · subst hcs
    have hc : ∀ j, j < len → ∃ z : Int, w.cell? (a.add j) = some (.int .u8 z) ∧ 0 ≤ z ∧ z ≤ 255 := by
      intro j hj
      obtain ⟨cs', hc, ht'⟩ := hi j (by rw [hmm]; split <;> omega)
      rw [hC, Nat.mul_one] at hc
      obtain ⟨z, rfl, _, hw⟩ := DataW.trod_int he ht'
      obtain ⟨_, _, hat⟩ := World.cells?_some hc
      have := hat 0 (by omega)
      have e0 : (a.add j).add 0 = a.add j := by simp [Addr.add]
      rw [e0] at this
      simp [Lit.wf, IntKind.min, IntKind.max, IntKind.signed, IntKind.bits] at hw
      exact ⟨z, by simpa using this, by omega, by omega⟩
    refine ⟨some a, len, cap, rfl, fun hp => ?_, Nat.le_trans hl hm⟩
    obtain ⟨b, off, spot⟩ := a
    obtain ⟨z0, hz0, _⟩ := hc 0 hp
    have hspot : spot = none := by simpa [Addr.add] using World.cell?_spot hz0
    subst hspot
    have hadd : ∀ j, (Addr.mk b off none).add j = ⟨b, off + j, none⟩ := fun j => by
      by_cases hj : j = 0
      · subst hj; rfl
      · simp [Addr.add, hj]
    refine ⟨b, off, rfl, ?_, fun j hj => ?_⟩
    · rcases Nat.lt_or_ge b w.heap.size with h' | h'
      · exact h'
      · rw [hadd] at hz0
        simp [World.cell?, Array.getElem?_eq_none (by simpa using h')] at hz0
    · obtain ⟨z, hz, h1, h2⟩ := hc j hj
      rw [hadd] at hz
      exact ⟨z, hz, h1, h2⟩
end
end
end Go.Proofs.YtnemnkbcbokafaaGreat
