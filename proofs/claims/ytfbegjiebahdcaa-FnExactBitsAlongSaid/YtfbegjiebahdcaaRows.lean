/-
  No cell of these rows narrows 'for every input' (looked for: loops, veiled, ifaces, maps, wideKeys, modest, calm, conditions, laid).
  DERIVED. THE GIVEN ROWS OF THIS SEAT. 11 by the template 'for every input the law returns true; each argument reads behind the call as it read before'; 0 by the template 'total and deterministic' (their statements: YtfbegjiebahdcaaTotals.lean).
  GIVEN WITH THE SEED: the statements are not yours to turn. If you find one false, say at which input.
  Laid BY PROGRAM, IN A SANDBOX (cutbox-rows.mjs): the forced cells as the released guide's own fill.sh prints them over the translation e261e64ad107326c… (all of the seat's roots in one cut). By AI agents, Wed Nov 11 2026. No macro, syntax, notation, axiom, sorry.
-/
import Derived.Test.YtfbegjiebahdcaaChecked
import GoSem.Claim
import GoSem.ClaimJoined
import GoSem.ClaimMapViews
import Derived.JoinedTies
import Derived.KernelRfl
namespace Go.Proofs.Ytfbegjiebahdcaa
/- THE CELL 'sum', in the pinned program and in every row, IS THE sha256 OF THE DUMP (.gsa) THAT YtfbegjiebahdcaaProg.lean LOADS. Nothing in Lean hashes anything: it is a label: what it is worth is what the hold of that sum in a sandbox is worth. -/
noncomputable def Try.pinned : Pinned := { name := "ytfbegjiebahdcaa", sum := "e261e64ad107326c7526c0be2eadea8e6672a20d4ee6fc8c146900f1c9c8e107", checked := Try.checked }
namespace Rows
def none {H : Type} : Left H := { results := [], args := [] }

/-- 'laws.FnExactHeightWidth': WHATEVER THE INPUT: true; the input reads as it did. -/
def fnExactHeightWidthSpec : ChangeSpec := { name := "fnExactHeightWidth", fn := fun _ => fun
  | [d1, d2] => { results := [.lit (.bool true)], args := [d1, d2] }
  | _ => none }
def fnExactHeightWidthRow : OpenClaim := { program := "ytfbegjiebahdcaa", sum := "e261e64ad107326c7526c0be2eadea8e6672a20d4ee6fc8c146900f1c9c8e107", func := "loop.example/g01004/laws.FnExactHeightWidth", spec := "fnExactHeightWidth", apart := false }
def FnExactHeightWidthSaid : Prop := fnExactHeightWidthRow.holds Try.pinned (OpenSpec.ofChange fnExactHeightWidthSpec)

/-- ITS FALSE NEIGHBOUR: 'it returns false'. Refute it at one input. -/
def fnExactHeightWidthWrong : ChangeSpec := { name := "fnExactHeightWidth", fn := fun _ => fun
  | [d1, d2] => { results := [.lit (.bool false)], args := [d1, d2] }
  | _ => none }
def FnExactHeightWidthWrongFalsely : Prop := fnExactHeightWidthRow.holds Try.pinned (OpenSpec.ofChange fnExactHeightWidthWrong)

/-- 'laws.FnExactDoublingsOf': WHATEVER THE INPUT: true; the input reads as it did. -/
def fnExactDoublingsOfSpec : ChangeSpec := { name := "fnExactDoublingsOf", fn := fun _ => fun
  | [d1, d2, d3] => { results := [.lit (.bool true)], args := [d1, d2, d3] }
  | _ => none }
def fnExactDoublingsOfRow : OpenClaim := { program := "ytfbegjiebahdcaa", sum := "e261e64ad107326c7526c0be2eadea8e6672a20d4ee6fc8c146900f1c9c8e107", func := "loop.example/g01004/laws.FnExactDoublingsOf", spec := "fnExactDoublingsOf", apart := false }
def FnExactDoublingsOfSaid : Prop := fnExactDoublingsOfRow.holds Try.pinned (OpenSpec.ofChange fnExactDoublingsOfSpec)

/-- ITS FALSE NEIGHBOUR: 'it returns false'. Refute it at one input. -/
def fnExactDoublingsOfWrong : ChangeSpec := { name := "fnExactDoublingsOf", fn := fun _ => fun
  | [d1, d2, d3] => { results := [.lit (.bool false)], args := [d1, d2, d3] }
  | _ => none }
def FnExactDoublingsOfWrongFalsely : Prop := fnExactDoublingsOfRow.holds Try.pinned (OpenSpec.ofChange fnExactDoublingsOfWrong)

/-- 'laws.FnExactBitsAlong': WHATEVER THE INPUT: true; the input reads as it did. -/
def fnExactBitsAlongSpec : ChangeSpec := { name := "fnExactBitsAlong", fn := fun _ => fun
  | [d1, d2, d3] => { results := [.lit (.bool true)], args := [d1, d2, d3] }
  | _ => none }
def fnExactBitsAlongRow : OpenClaim := { program := "ytfbegjiebahdcaa", sum := "e261e64ad107326c7526c0be2eadea8e6672a20d4ee6fc8c146900f1c9c8e107", func := "loop.example/g01004/laws.FnExactBitsAlong", spec := "fnExactBitsAlong", apart := false }
def FnExactBitsAlongSaid : Prop := fnExactBitsAlongRow.holds Try.pinned (OpenSpec.ofChange fnExactBitsAlongSpec)

/-- ITS FALSE NEIGHBOUR: 'it returns false'. Refute it at one input. -/
def fnExactBitsAlongWrong : ChangeSpec := { name := "fnExactBitsAlong", fn := fun _ => fun
  | [d1, d2, d3] => { results := [.lit (.bool false)], args := [d1, d2, d3] }
  | _ => none }
def FnExactBitsAlongWrongFalsely : Prop := fnExactBitsAlongRow.holds Try.pinned (OpenSpec.ofChange fnExactBitsAlongWrong)

/-- 'laws.FnExactIsPositiveHeight': WHATEVER THE INPUT: true; the input reads as it did. -/
def fnExactIsPositiveHeightSpec : ChangeSpec := { name := "fnExactIsPositiveHeight", fn := fun _ => fun
  | [d1, d2, d3] => { results := [.lit (.bool true)], args := [d1, d2, d3] }
  | _ => none }
def fnExactIsPositiveHeightRow : OpenClaim := { program := "ytfbegjiebahdcaa", sum := "e261e64ad107326c7526c0be2eadea8e6672a20d4ee6fc8c146900f1c9c8e107", func := "loop.example/g01004/laws.FnExactIsPositiveHeight", spec := "fnExactIsPositiveHeight", apart := false }
def FnExactIsPositiveHeightSaid : Prop := fnExactIsPositiveHeightRow.holds Try.pinned (OpenSpec.ofChange fnExactIsPositiveHeightSpec)

/-- ITS FALSE NEIGHBOUR: 'it returns false'. Refute it at one input. -/
def fnExactIsPositiveHeightWrong : ChangeSpec := { name := "fnExactIsPositiveHeight", fn := fun _ => fun
  | [d1, d2, d3] => { results := [.lit (.bool false)], args := [d1, d2, d3] }
  | _ => none }
def FnExactIsPositiveHeightWrongFalsely : Prop := fnExactIsPositiveHeightRow.holds Try.pinned (OpenSpec.ofChange fnExactIsPositiveHeightWrong)

/-- 'laws.FnExactProvesInfinite': WHATEVER THE INPUT: true; the input reads as it did. -/
def fnExactProvesInfiniteSpec : ChangeSpec := { name := "fnExactProvesInfinite", fn := fun _ => fun
  | [d1, d2] => { results := [.lit (.bool true)], args := [d1, d2] }
  | _ => none }
def fnExactProvesInfiniteRow : OpenClaim := { program := "ytfbegjiebahdcaa", sum := "e261e64ad107326c7526c0be2eadea8e6672a20d4ee6fc8c146900f1c9c8e107", func := "loop.example/g01004/laws.FnExactProvesInfinite", spec := "fnExactProvesInfinite", apart := false }
def FnExactProvesInfiniteSaid : Prop := fnExactProvesInfiniteRow.holds Try.pinned (OpenSpec.ofChange fnExactProvesInfiniteSpec)

/-- ITS FALSE NEIGHBOUR: 'it returns false'. Refute it at one input. -/
def fnExactProvesInfiniteWrong : ChangeSpec := { name := "fnExactProvesInfinite", fn := fun _ => fun
  | [d1, d2] => { results := [.lit (.bool false)], args := [d1, d2] }
  | _ => none }
def FnExactProvesInfiniteWrongFalsely : Prop := fnExactProvesInfiniteRow.holds Try.pinned (OpenSpec.ofChange fnExactProvesInfiniteWrong)

/-- 'laws.FnExactHeightAt': WHATEVER THE INPUT: true; the input reads as it did. -/
def fnExactHeightAtSpec : ChangeSpec := { name := "fnExactHeightAt", fn := fun _ => fun
  | [d1, d2, d3] => { results := [.lit (.bool true)], args := [d1, d2, d3] }
  | _ => none }
def fnExactHeightAtRow : OpenClaim := { program := "ytfbegjiebahdcaa", sum := "e261e64ad107326c7526c0be2eadea8e6672a20d4ee6fc8c146900f1c9c8e107", func := "loop.example/g01004/laws.FnExactHeightAt", spec := "fnExactHeightAt", apart := false }
def FnExactHeightAtSaid : Prop := fnExactHeightAtRow.holds Try.pinned (OpenSpec.ofChange fnExactHeightAtSpec)

/-- ITS FALSE NEIGHBOUR: 'it returns false'. Refute it at one input. -/
def fnExactHeightAtWrong : ChangeSpec := { name := "fnExactHeightAt", fn := fun _ => fun
  | [d1, d2, d3] => { results := [.lit (.bool false)], args := [d1, d2, d3] }
  | _ => none }
def FnExactHeightAtWrongFalsely : Prop := fnExactHeightAtRow.holds Try.pinned (OpenSpec.ofChange fnExactHeightAtWrong)

/-- 'laws.FnExactCompareHeights': WHATEVER THE INPUT: true; the input reads as it did. -/
def fnExactCompareHeightsSpec : ChangeSpec := { name := "fnExactCompareHeights", fn := fun _ => fun
  | [d1, d2, d3] => { results := [.lit (.bool true)], args := [d1, d2, d3] }
  | _ => none }
def fnExactCompareHeightsRow : OpenClaim := { program := "ytfbegjiebahdcaa", sum := "e261e64ad107326c7526c0be2eadea8e6672a20d4ee6fc8c146900f1c9c8e107", func := "loop.example/g01004/laws.FnExactCompareHeights", spec := "fnExactCompareHeights", apart := false }
def FnExactCompareHeightsSaid : Prop := fnExactCompareHeightsRow.holds Try.pinned (OpenSpec.ofChange fnExactCompareHeightsSpec)

/-- ITS FALSE NEIGHBOUR: 'it returns false'. Refute it at one input. -/
def fnExactCompareHeightsWrong : ChangeSpec := { name := "fnExactCompareHeights", fn := fun _ => fun
  | [d1, d2, d3] => { results := [.lit (.bool false)], args := [d1, d2, d3] }
  | _ => none }
def FnExactCompareHeightsWrongFalsely : Prop := fnExactCompareHeightsRow.holds Try.pinned (OpenSpec.ofChange fnExactCompareHeightsWrong)

/-- 'laws.FnExactBestHeight': WHATEVER THE INPUT: true; the input reads as it did. -/
def fnExactBestHeightSpec : ChangeSpec := { name := "fnExactBestHeight", fn := fun _ => fun
  | [d1, d2] => { results := [.lit (.bool true)], args := [d1, d2] }
  | _ => none }
def fnExactBestHeightRow : OpenClaim := { program := "ytfbegjiebahdcaa", sum := "e261e64ad107326c7526c0be2eadea8e6672a20d4ee6fc8c146900f1c9c8e107", func := "loop.example/g01004/laws.FnExactBestHeight", spec := "fnExactBestHeight", apart := false }
def FnExactBestHeightSaid : Prop := fnExactBestHeightRow.holds Try.pinned (OpenSpec.ofChange fnExactBestHeightSpec)

/-- ITS FALSE NEIGHBOUR: 'it returns false'. Refute it at one input. -/
def fnExactBestHeightWrong : ChangeSpec := { name := "fnExactBestHeight", fn := fun _ => fun
  | [d1, d2] => { results := [.lit (.bool false)], args := [d1, d2] }
  | _ => none }
def FnExactBestHeightWrongFalsely : Prop := fnExactBestHeightRow.holds Try.pinned (OpenSpec.ofChange fnExactBestHeightWrong)

/-- 'laws.FnExactMultipleHeight': WHATEVER THE INPUT: true; the input reads as it did. -/
def fnExactMultipleHeightSpec : ChangeSpec := { name := "fnExactMultipleHeight", fn := fun _ => fun
  | [d1, d2, d3] => { results := [.lit (.bool true)], args := [d1, d2, d3] }
  | _ => none }
def fnExactMultipleHeightRow : OpenClaim := { program := "ytfbegjiebahdcaa", sum := "e261e64ad107326c7526c0be2eadea8e6672a20d4ee6fc8c146900f1c9c8e107", func := "loop.example/g01004/laws.FnExactMultipleHeight", spec := "fnExactMultipleHeight", apart := false }
def FnExactMultipleHeightSaid : Prop := fnExactMultipleHeightRow.holds Try.pinned (OpenSpec.ofChange fnExactMultipleHeightSpec)

/-- ITS FALSE NEIGHBOUR: 'it returns false'. Refute it at one input. -/
def fnExactMultipleHeightWrong : ChangeSpec := { name := "fnExactMultipleHeight", fn := fun _ => fun
  | [d1, d2, d3] => { results := [.lit (.bool false)], args := [d1, d2, d3] }
  | _ => none }
def FnExactMultipleHeightWrongFalsely : Prop := fnExactMultipleHeightRow.holds Try.pinned (OpenSpec.ofChange fnExactMultipleHeightWrong)

/-- 'laws.FnExactHeightGap': WHATEVER THE INPUT: true; the input reads as it did. -/
def fnExactHeightGapSpec : ChangeSpec := { name := "fnExactHeightGap", fn := fun _ => fun
  | [d1, d2] => { results := [.lit (.bool true)], args := [d1, d2] }
  | _ => none }
def fnExactHeightGapRow : OpenClaim := { program := "ytfbegjiebahdcaa", sum := "e261e64ad107326c7526c0be2eadea8e6672a20d4ee6fc8c146900f1c9c8e107", func := "loop.example/g01004/laws.FnExactHeightGap", spec := "fnExactHeightGap", apart := false }
def FnExactHeightGapSaid : Prop := fnExactHeightGapRow.holds Try.pinned (OpenSpec.ofChange fnExactHeightGapSpec)

/-- ITS FALSE NEIGHBOUR: 'it returns false'. Refute it at one input. -/
def fnExactHeightGapWrong : ChangeSpec := { name := "fnExactHeightGap", fn := fun _ => fun
  | [d1, d2] => { results := [.lit (.bool false)], args := [d1, d2] }
  | _ => none }
def FnExactHeightGapWrongFalsely : Prop := fnExactHeightGapRow.holds Try.pinned (OpenSpec.ofChange fnExactHeightGapWrong)

/-- 'laws.FnExactLowestPoint': WHATEVER THE INPUT: true; the input reads as it did. -/
def fnExactLowestPointSpec : ChangeSpec := { name := "fnExactLowestPoint", fn := fun _ => fun
  | [d1, d2] => { results := [.lit (.bool true)], args := [d1, d2] }
  | _ => none }
def fnExactLowestPointRow : OpenClaim := { program := "ytfbegjiebahdcaa", sum := "e261e64ad107326c7526c0be2eadea8e6672a20d4ee6fc8c146900f1c9c8e107", func := "loop.example/g01004/laws.FnExactLowestPoint", spec := "fnExactLowestPoint", apart := false }
def FnExactLowestPointSaid : Prop := fnExactLowestPointRow.holds Try.pinned (OpenSpec.ofChange fnExactLowestPointSpec)

/-- ITS FALSE NEIGHBOUR: 'it returns false'. Refute it at one input. -/
def fnExactLowestPointWrong : ChangeSpec := { name := "fnExactLowestPoint", fn := fun _ => fun
  | [d1, d2] => { results := [.lit (.bool false)], args := [d1, d2] }
  | _ => none }
def FnExactLowestPointWrongFalsely : Prop := fnExactLowestPointRow.holds Try.pinned (OpenSpec.ofChange fnExactLowestPointWrong)

/- THE SECOND FORM. 'bulk': how many values and letters a reading holds, each counted each time it is reached (what is shared counts as often as it is met; a slice's spare places count too). A statement '..UptoSaid' is the law's where the arguments, and the package variables that the reading takes, are together of bulk at most 1048576: NARROWER than '..Said'. Prove '..Said' where nothing that the law and all that it calls make is longer than what came in: it says more and counts as full. Else prove '..UptoSaid'. A law counts once. -/
mutual
def uptoBulk {H : Type} : DataW H → Nat
  | .lit (.string bytes) => bytes.length + 1
  | .lit _ => 1
  | .nil => 1
  | .ptr d => uptoBulk d + 1
  | .slice elems spare => uptoBulkAll elems + uptoBulkAll spare + 1
  | .agg parts => uptoBulkAll parts + 1
  | .iface _ d => uptoBulk d + 1
  | .map entries => uptoBulkEntries entries + 1
  | .held _ => 1
def uptoBulkAll {H : Type} : List (DataW H) → Nat
  | [] => 0
  | d :: r => uptoBulk d + uptoBulkAll r
def uptoBulkEntries {H : Type} : List (Lit × DataW H) → Nat
  | [] => 0
  | x :: r => uptoBulkEntry x + uptoBulkEntries r
def uptoBulkEntry {H : Type} : Lit × DataW H → Nat
  | (.string bytes, d) => bytes.length + uptoBulk d + 1
  | (_, d) => uptoBulk d + 1
 end
def uptoSmall : (H : Type) → List (DataW H) → Bool := fun _ ds => decide (uptoBulkAll ds ≤ 1048576)
def OpenSpec.upto (s : _root_.Go.ChangeSpec) : _root_.Go.OpenSpec := { _root_.Go.OpenSpec.ofChange s with cond := some uptoSmall }

/-- 'laws.FnExactHeightWidth', WHERE WHAT IT READS IS OF BULK AT MOST 1048576: true; the input reads as it did. -/
def fnExactHeightWidthUptoRow : OpenClaim := { program := "ytfbegjiebahdcaa", sum := "e261e64ad107326c7526c0be2eadea8e6672a20d4ee6fc8c146900f1c9c8e107", func := "loop.example/g01004/laws.FnExactHeightWidth", spec := "fnExactHeightWidth", apart := false, narrowed := true }
def FnExactHeightWidthUptoSaid : Prop := fnExactHeightWidthUptoRow.holds Try.pinned (OpenSpec.upto fnExactHeightWidthSpec)

/-- 'laws.FnExactDoublingsOf', WHERE WHAT IT READS IS OF BULK AT MOST 1048576: true; the input reads as it did. -/
def fnExactDoublingsOfUptoRow : OpenClaim := { program := "ytfbegjiebahdcaa", sum := "e261e64ad107326c7526c0be2eadea8e6672a20d4ee6fc8c146900f1c9c8e107", func := "loop.example/g01004/laws.FnExactDoublingsOf", spec := "fnExactDoublingsOf", apart := false, narrowed := true }
def FnExactDoublingsOfUptoSaid : Prop := fnExactDoublingsOfUptoRow.holds Try.pinned (OpenSpec.upto fnExactDoublingsOfSpec)

/-- 'laws.FnExactBitsAlong', WHERE WHAT IT READS IS OF BULK AT MOST 1048576: true; the input reads as it did. -/
def fnExactBitsAlongUptoRow : OpenClaim := { program := "ytfbegjiebahdcaa", sum := "e261e64ad107326c7526c0be2eadea8e6672a20d4ee6fc8c146900f1c9c8e107", func := "loop.example/g01004/laws.FnExactBitsAlong", spec := "fnExactBitsAlong", apart := false, narrowed := true }
def FnExactBitsAlongUptoSaid : Prop := fnExactBitsAlongUptoRow.holds Try.pinned (OpenSpec.upto fnExactBitsAlongSpec)

/-- 'laws.FnExactIsPositiveHeight', WHERE WHAT IT READS IS OF BULK AT MOST 1048576: true; the input reads as it did. -/
def fnExactIsPositiveHeightUptoRow : OpenClaim := { program := "ytfbegjiebahdcaa", sum := "e261e64ad107326c7526c0be2eadea8e6672a20d4ee6fc8c146900f1c9c8e107", func := "loop.example/g01004/laws.FnExactIsPositiveHeight", spec := "fnExactIsPositiveHeight", apart := false, narrowed := true }
def FnExactIsPositiveHeightUptoSaid : Prop := fnExactIsPositiveHeightUptoRow.holds Try.pinned (OpenSpec.upto fnExactIsPositiveHeightSpec)

/-- 'laws.FnExactProvesInfinite', WHERE WHAT IT READS IS OF BULK AT MOST 1048576: true; the input reads as it did. -/
def fnExactProvesInfiniteUptoRow : OpenClaim := { program := "ytfbegjiebahdcaa", sum := "e261e64ad107326c7526c0be2eadea8e6672a20d4ee6fc8c146900f1c9c8e107", func := "loop.example/g01004/laws.FnExactProvesInfinite", spec := "fnExactProvesInfinite", apart := false, narrowed := true }
def FnExactProvesInfiniteUptoSaid : Prop := fnExactProvesInfiniteUptoRow.holds Try.pinned (OpenSpec.upto fnExactProvesInfiniteSpec)

/-- 'laws.FnExactHeightAt', WHERE WHAT IT READS IS OF BULK AT MOST 1048576: true; the input reads as it did. -/
def fnExactHeightAtUptoRow : OpenClaim := { program := "ytfbegjiebahdcaa", sum := "e261e64ad107326c7526c0be2eadea8e6672a20d4ee6fc8c146900f1c9c8e107", func := "loop.example/g01004/laws.FnExactHeightAt", spec := "fnExactHeightAt", apart := false, narrowed := true }
def FnExactHeightAtUptoSaid : Prop := fnExactHeightAtUptoRow.holds Try.pinned (OpenSpec.upto fnExactHeightAtSpec)

/-- 'laws.FnExactCompareHeights', WHERE WHAT IT READS IS OF BULK AT MOST 1048576: true; the input reads as it did. -/
def fnExactCompareHeightsUptoRow : OpenClaim := { program := "ytfbegjiebahdcaa", sum := "e261e64ad107326c7526c0be2eadea8e6672a20d4ee6fc8c146900f1c9c8e107", func := "loop.example/g01004/laws.FnExactCompareHeights", spec := "fnExactCompareHeights", apart := false, narrowed := true }
def FnExactCompareHeightsUptoSaid : Prop := fnExactCompareHeightsUptoRow.holds Try.pinned (OpenSpec.upto fnExactCompareHeightsSpec)

/-- 'laws.FnExactBestHeight', WHERE WHAT IT READS IS OF BULK AT MOST 1048576: true; the input reads as it did. -/
def fnExactBestHeightUptoRow : OpenClaim := { program := "ytfbegjiebahdcaa", sum := "e261e64ad107326c7526c0be2eadea8e6672a20d4ee6fc8c146900f1c9c8e107", func := "loop.example/g01004/laws.FnExactBestHeight", spec := "fnExactBestHeight", apart := false, narrowed := true }
def FnExactBestHeightUptoSaid : Prop := fnExactBestHeightUptoRow.holds Try.pinned (OpenSpec.upto fnExactBestHeightSpec)

/-- 'laws.FnExactMultipleHeight', WHERE WHAT IT READS IS OF BULK AT MOST 1048576: true; the input reads as it did. -/
def fnExactMultipleHeightUptoRow : OpenClaim := { program := "ytfbegjiebahdcaa", sum := "e261e64ad107326c7526c0be2eadea8e6672a20d4ee6fc8c146900f1c9c8e107", func := "loop.example/g01004/laws.FnExactMultipleHeight", spec := "fnExactMultipleHeight", apart := false, narrowed := true }
def FnExactMultipleHeightUptoSaid : Prop := fnExactMultipleHeightUptoRow.holds Try.pinned (OpenSpec.upto fnExactMultipleHeightSpec)

/-- 'laws.FnExactHeightGap', WHERE WHAT IT READS IS OF BULK AT MOST 1048576: true; the input reads as it did. -/
def fnExactHeightGapUptoRow : OpenClaim := { program := "ytfbegjiebahdcaa", sum := "e261e64ad107326c7526c0be2eadea8e6672a20d4ee6fc8c146900f1c9c8e107", func := "loop.example/g01004/laws.FnExactHeightGap", spec := "fnExactHeightGap", apart := false, narrowed := true }
def FnExactHeightGapUptoSaid : Prop := fnExactHeightGapUptoRow.holds Try.pinned (OpenSpec.upto fnExactHeightGapSpec)

/-- 'laws.FnExactLowestPoint', WHERE WHAT IT READS IS OF BULK AT MOST 1048576: true; the input reads as it did. -/
def fnExactLowestPointUptoRow : OpenClaim := { program := "ytfbegjiebahdcaa", sum := "e261e64ad107326c7526c0be2eadea8e6672a20d4ee6fc8c146900f1c9c8e107", func := "loop.example/g01004/laws.FnExactLowestPoint", spec := "fnExactLowestPoint", apart := false, narrowed := true }
def FnExactLowestPointUptoSaid : Prop := fnExactLowestPointUptoRow.holds Try.pinned (OpenSpec.upto fnExactLowestPointSpec)

end Rows
end Go.Proofs.Ytfbegjiebahdcaa
