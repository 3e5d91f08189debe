/- Own words and small laws of this work: memory below a block, plain closings. No program in sight. -/
import Derived.WalkKit
import Derived.Handy
import Derived.BigQuiet
import Derived.Deep.QuietTactic
import Derived.Deep.RegionHeld3
import Derived.Deep.DeepCutAuto
import Derived.Lib.Hide
namespace Go.Proofs.Ytijpfnkhaldfeaa
open Go.RowKit
set_option linter.unusedVariables false
set_option maxHeartbeats 4000000
set_option linter.unusedSimpArgs false

theorem ret_int {k : IntKind} {a b : Int} (h : a = b) : Ending.returned (.int k a) = .returned (.int k b) := by rw [h]
theorem ret_bool {a b : Bool} (h : a = b) : Ending.returned (.bool a) = .returned (.bool b) := by rw [h]
theorem cellAt {W w1 : World} (hb : Below W.heap.size W w1) (b : Nat) (h : b < W.heap.size) : ∀ o, w1.cell? ⟨b, o, none⟩ = W.cell? ⟨b, o, none⟩ := fun o => hb.cell (p := ⟨b, o, none⟩) h
theorem frozAt {W w1 : World} (hb : Below W.heap.size W w1) (b : Nat) (h : b < W.heap.size) : ∀ o, w1.frozen? ⟨b, o, none⟩ = W.frozen? ⟨b, o, none⟩ := fun o => hb.frozen (p := ⟨b, o, none⟩) h
theorem below_drewN {B : Nat} {a w : World} (h : Below B a w) (n : Nat) : Below B a (w.drewN n) := ⟨h.os, h.tape, h.output, h.size, h.block⟩
theorem below_via {B : Nat} {a w1 w2 : World} (hb : Below w1.heap.size w1 w2) (h : Below B a w1) (hB : B ≤ w1.heap.size) : Below B a w2 := h.trans (hb.mono hB)
theorem World.size_drewN' (w : World) (n : Nat) : (w.drewN n).heap.size = w.heap.size := rfl
theorem zRf {B : Nat} {w : World} : Below B w w := Below.refl B w
theorem zDn {B n : Nat} {a w : World} (h : Below B a w) : Below B a (w.drewN n) := below_drewN h n
theorem zDr {B : Nat} {a w : World} (h : Below B a w) : Below B a w.drew := Below.drew h
theorem zAl {B : Nat} {a w : World} {o : Obj} (h : Below B a w) (hB : B ≤ w.heap.size) : Below B a (w.alloc o) := Below.alloc h hB o
theorem zSt {B : Nat} {a w : World} {p : Addr} {u : Value} (h : Below B a w) (hp : B ≤ p.block) : Below B a (w.setCell p u) := Below.setCell h hp u
theorem zVi {B : Nat} {a w1 w2 : World} (hb : Below w1.heap.size w1 w2) (h : Below B a w1) (hB : B ≤ w1.heap.size) : Below B a w2 := below_via hb h hB
theorem zL {n k m : Nat} : n ≤ n + k + m := Nat.le_add_right_of_le (Nat.le_add_right _ _)
end Go.Proofs.Ytijpfnkhaldfeaa
