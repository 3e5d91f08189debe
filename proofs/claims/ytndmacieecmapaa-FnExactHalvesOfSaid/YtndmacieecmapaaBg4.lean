/- Quotients of whole numbers that are not negative: the reference. -/
import Derived.Test.YtndmacieecmapaaBg3
namespace Go.Proofs.Ytndmacieecmapaa
open Go.RowKit
set_option linter.unusedVariables false
set_option maxHeartbeats 1000000
set_option maxRecDepth 20000
set_option linter.unusedSimpArgs false
def OvRel (W0 : World) (g : Nat) (d : Int) (zs : List Int) (n : Nat) (rv iv : Value) (wr : World) : Prop := ∃ (k : Nat) (rest : Int) (qs : List Int), rv = .int .i64 rest ∧ iv = .int .i64 ((k : Int) - 1) ∧ k ≤ n ∧ 0 ≤ rest ∧ rest < d ∧ qs.length = n ∧ Dig qs ∧
  val (zs.drop k) = d * val (qs.drop k) + rest ∧ RowW W0 wr g 3 qs
def NewQ (w : World) (z d : Int) (e : Ending) (w' : World) : Prop := ∃ b a n c, e = .returned (.tuple #[.agg #[.bool b, .slice a n c], .int .i64 (z % d)]) ∧ Wx w' b a n c (z / d) ∧ Fr w.heap.size a ∧ Below w.heap.size w w'
end Go.Proofs.Ytndmacieecmapaa
