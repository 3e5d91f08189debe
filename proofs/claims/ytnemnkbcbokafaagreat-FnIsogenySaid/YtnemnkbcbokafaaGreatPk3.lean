/- Lemmas and contracts of functions. No condition. -/
import Derived.Test.YtnemnkbcbokafaaGreatPk1
namespace Go.Proofs.YtnemnkbcbokafaaGreat
open Go.RowKit
set_option linter.unusedVariables false
set_option linter.unusedSimpArgs false

structure Cal (T : TypeId) (w w' : World) (p : Nat) (v : Bool) : Prop where
  os : w'.os = w.os
  tape : w'.tape = w.tape
  output : w'.output = w.output
  size : w.heap.size ≤ w'.heap.size
  block : ∀ k, k < w.heap.size → k ≠ p → w'.heap[k]? = w.heap[k]?
  at_ : w'.heap[p]? = some (.cells #[.bool v] T (0, 0))
section
variable {T : TypeId} {w w1 w2 : World} {p : Nat} {v u : Bool}
theorem Cal.start (h : w.heap[p]? = some (.cells #[.bool v] T (0, 0))) : Cal T w w p v := ⟨rfl, rfl, rfl, Nat.le_refl _, fun _ _ _ => rfl, h⟩
theorem Cal.lt (h : Cal T w w1 p v) : p < w1.heap.size := lt_of_block h.at_
theorem Cal.drewN (h : Cal T w w1 p v) (n : Nat) : Cal T w (w1.drewN n) p v := ⟨h.os, h.tape, h.output, h.size, h.block, h.at_⟩
theorem Cal.drew (h : Cal T w w1 p v) : Cal T w w1.drew p v := ⟨h.os, h.tape, h.output, h.size, h.block, h.at_⟩
theorem Cal.alloc (h : Cal T w w1 p v) (o : Obj) : Cal T w (w1.alloc o) p v :=
  ⟨h.os, h.tape, h.output, by have := h.size; simp; omega, fun k hk hp => (Below.heap_alloc _ _ _ (by have := h.size; omega)).trans (h.block k hk hp), (Below.heap_alloc _ _ _ h.lt).trans h.at_⟩
theorem Cal.set (h : Cal T w w1 p v) (u : Bool) : Cal T w (w1.setCell ⟨p, 0, none⟩ (.bool u)) p u :=
  ⟨h.os, h.tape, h.output, by have := h.size; simp [World.setCell]; omega, fun k hk hp => (Below.heap_setCell w1 _ _ k hp).trans (h.block k hk hp), one_setCell h.at_⟩
theorem Cal.own (h : Cal T w w1 p v) {a : Addr} (ha : w.heap.size ≤ a.block) (hp : a.block ≠ p) (x : Value) : Cal T w (w1.setCell a x) p v :=
  ⟨h.os, h.tape, h.output, by have := h.size; simp [World.setCell]; omega, fun k hk hkp => (Below.heap_setCell w1 _ _ k (by omega)).trans (h.block k hk hkp), (Below.heap_setCell w1 _ _ p (fun e => hp e.symm)).trans h.at_⟩
theorem Cal.trans (h : Cal T w w1 p v) (k : Cal T w1 w2 p u) : Cal T w w2 p u :=
  ⟨k.os.trans h.os, k.tape.trans h.tape, k.output.trans h.output, Nat.le_trans h.size k.size, fun i hi hp => (k.block i (Nat.lt_of_lt_of_le hi h.size) hp).trans (h.block i hi hp), k.at_⟩
theorem Cal.step (h : Cal T w w1 p v) (k : Below w1.heap.size w1 w2) : Cal T w w2 p v :=
  ⟨k.os.trans h.os, k.tape.trans h.tape, k.output.trans h.output, Nat.le_trans h.size k.size, fun i hi hp => (k.block i (Nat.lt_of_lt_of_le hi h.size)).trans (h.block i hi hp), (k.block p h.lt).trans h.at_⟩
theorem Cal.below {B : Nat} (h : Cal T w w1 p v) (hB : B ≤ w.heap.size) (hp : B ≤ p) : Below B w w1 :=
  ⟨h.os, h.tape, h.output, h.size, fun k hk => h.block k (by omega) (by omega)⟩
def CalE (T : TypeId) (w w' : World) (p : Nat) : Prop := ∃ v, Cal T w w' p v
theorem CalE.of (h : Cal T w w1 p v) : CalE T w w1 p := ⟨v, h⟩
theorem CalE.alloc (h : CalE T w w1 p) (o : Obj) : CalE T w (w1.alloc o) p := h.elim fun v h => ⟨v, h.alloc o⟩
theorem CalE.drew (h : CalE T w w1 p) : CalE T w w1.drew p := h.elim fun v h => ⟨v, h.drew⟩
theorem CalE.drewN (h : CalE T w w1 p) (n : Nat) : CalE T w (w1.drewN n) p := h.elim fun v h => ⟨v, h.drewN n⟩
theorem CalE.own (h : CalE T w w1 p) {a : Addr} (ha : w.heap.size ≤ a.block) (hp : a.block ≠ p) (x : Value) : CalE T w (w1.setCell a x) p := h.elim fun v h => ⟨v, h.own ha hp x⟩
theorem CalE.via (hb : Cal T w1 w2 p u) (h : CalE T w w1 p) : CalE T w w2 p := h.elim fun v h => ⟨u, h.trans hb⟩
theorem CalE.step (hb : Below w1.heap.size w1 w2) (h : CalE T w w1 p) : CalE T w w2 p := h.elim fun v h => ⟨v, h.step hb⟩
theorem CalE.below {B : Nat} (h : CalE T w w1 p) (hB : B ≤ w.heap.size) (hp : B ≤ p) : Below B w w1 := h.elim fun v h => h.below hB hp
theorem cal_via (hb : Cal T w1 w2 p u) (h : CalE T w w1 p) : Cal T w w2 p u := h.elim fun v h => h.trans hb
theorem cal_step (hb : Below w1.heap.size w1 w2) (h : Cal T w w1 p v) : Cal T w w2 p v := h.step hb
theorem calCell (h : Cal T w w1 p v) (b : Nat) (hb : b < w.heap.size) (hp : b ≠ p) : ∀ o, w1.cell? ⟨b, o, none⟩ = w.cell? ⟨b, o, none⟩ := fun o => World.cell?_of_block (h.block b hb hp)
theorem calFroz (h : Cal T w w1 p v) (b : Nat) (hb : b < w.heap.size) (hp : b ≠ p) : ∀ o, w1.frozen? ⟨b, o, none⟩ = w.frozen? ⟨b, o, none⟩ := fun o => World.frozen?_of_block (h.block b hb hp)
theorem calCell' {C : Prop} (h : Cal T w w1 p v) (b o : Nat) (hb : b < w.heap.size) (hp : b ≠ p) (k : w1.cell? ⟨b, o, none⟩ = w.cell? ⟨b, o, none⟩ → C) : C := k (calCell h b hb hp o)
theorem calFroz' {C : Prop} (h : Cal T w w1 p v) (b : Nat) (hb : b < w.heap.size) (hp : b ≠ p) (k : (∀ o, w1.frozen? ⟨b, o, none⟩ = w.frozen? ⟨b, o, none⟩) → C) : C := k (calFroz h b hb hp)
theorem far1 {w : World} {b1 o1 b2 o2 : Nat} {x v : Value} (h : w.cell? ⟨b2, o2, none⟩ = some v) (hne : b1 ≠ b2) : (w.setCell ⟨b1, o1, none⟩ x).cell? ⟨b2, o2, none⟩ = some v := by
  rw [World.cell?_setCell_other]; exact h
  intro e; exact hne (congrArg Addr.block e)
theorem far2 {w : World} {b1 o1 o1' b2 o2 : Nat} {x y v : Value} (h : w.cell? ⟨b2, o2, none⟩ = some v) (hne : b1 ≠ b2) : ((w.setCell ⟨b1, o1, none⟩ x).setCell ⟨b1, o1', none⟩ y).cell? ⟨b2, o2, none⟩ = some v := far1 (far1 h hne) hne
theorem calAt (h : Cal T w w1 p v) : w1.cell? ⟨p, 0, none⟩ = some (.bool v) := cell_of_one h.at_
theorem calFree (h : Cal T w w1 p v) : w1.frozen? ⟨p, 0, none⟩ = false := free_of_one h.at_
end
end Go.Proofs.YtnemnkbcbokafaaGreat
