/- How many bits a whole number has: the reference. -/
import Derived.Test.YtndmacieecmapaaBg4
namespace Go.Proofs.Ytndmacieecmapaa
open Go.RowKit
set_option linter.unusedVariables false
set_option maxHeartbeats 1000000
set_option maxRecDepth 20000
set_option linter.unusedSimpArgs false
def BtRel (w : World) (g : Nat) (z : Int) (bv : Value) (wr : World) : Prop := ∃ (bits : Nat) (y : Int) (a : Option Addr) (n c : Nat), bv = .int .i64 bits ∧ 0 ≤ y ∧ y ≤ z ∧ bits + bl y = bl z ∧
  wr.heap[g]? = some (.cells #[.bool false, .slice a n c] 55 (0, 0)) ∧ Wx wr false a n c y ∧ Below w.heap.size w wr
def B2Rel (z : Int) (bv nv : Value) : Prop := ∃ (bits : Nat) (y : Int), bv = .int .i64 bits ∧ nv = .int .i64 y ∧ 0 ≤ y ∧ y ≤ 9223372036854775807 ∧ bits + bl y = bl z
def heapNum (g : Nat) (w : World) : Nat := match w.cell? ⟨g, 1, none⟩ with | some (.slice _ n _) => n | _ => 0
end Go.Proofs.Ytndmacieecmapaa
