/-
  No cell of these rows narrows 'for every input' (looked for: loops, veiled, ifaces, maps, wideKeys, modest, calm, conditions, laid).
  DERIVED. THE GIVEN ROWS OF THIS SEAT. 8 by the template 'for every input the law returns true; each argument reads behind the call as it read before'; 0 by the template 'total and deterministic' (their statements: YtpikckgaonppkaaTotals.lean).
  GIVEN WITH THE SEED: the statements are not yours to turn. If you find one false, say at which input.
  Laid BY PROGRAM, IN A SANDBOX (cutbox-rows.mjs): the forced cells as the released guide's own fill.sh prints them over the translation c4524ecf72224570… (all of the seat's roots in one cut). By AI agents, Wed Nov 11 2026. No macro, syntax, notation, axiom, sorry.
-/
import Derived.Test.YtpikckgaonppkaaChecked
import GoSem.Claim
import GoSem.ClaimJoined
import GoSem.ClaimMapViews
import Derived.JoinedTies
import Derived.KernelRfl
namespace Go.Proofs.Ytpikckgaonppkaa
/- THE CELL 'sum', in the pinned program and in every row, IS THE sha256 OF THE DUMP (.gsa) THAT YtpikckgaonppkaaProg.lean LOADS. Nothing in Lean hashes anything: it is a label: what it is worth is what the hold of that sum in a sandbox is worth. -/
noncomputable def Try.pinned : Pinned := { name := "ytpikckgaonppkaa", sum := "c4524ecf72224570945b309ee1b96d6289564348eaec6ac3e6365d18624ea9c9", checked := Try.checked }
namespace Rows
def none {H : Type} : Left H := { results := [], args := [] }

/-- 'laws.FnExactLocalPair': WHATEVER THE INPUT: true; the input reads as it did. -/
def fnExactLocalPairSpec : ChangeSpec := { name := "fnExactLocalPair", fn := fun _ => fun
  | [d1, d2] => { results := [.lit (.bool true)], args := [d1, d2] }
  | _ => none }
def fnExactLocalPairRow : OpenClaim := { program := "ytpikckgaonppkaa", sum := "c4524ecf72224570945b309ee1b96d6289564348eaec6ac3e6365d18624ea9c9", func := "loop.example/g01004/laws.FnExactLocalPair", spec := "fnExactLocalPair", unfollowed := true, recurses := true, apart := false }
def FnExactLocalPairSaid : Prop := fnExactLocalPairRow.holds Try.pinned (OpenSpec.ofChange fnExactLocalPairSpec)

/-- ITS FALSE NEIGHBOUR: 'it returns false'. Refute it at one input. -/
def fnExactLocalPairWrong : ChangeSpec := { name := "fnExactLocalPair", fn := fun _ => fun
  | [d1, d2] => { results := [.lit (.bool false)], args := [d1, d2] }
  | _ => none }
def FnExactLocalPairWrongFalsely : Prop := fnExactLocalPairRow.holds Try.pinned (OpenSpec.ofChange fnExactLocalPairWrong)

/-- 'laws.FnExactIsLocallySoluble': WHATEVER THE INPUT: true; the input reads as it did. -/
def fnExactIsLocallySolubleSpec : ChangeSpec := { name := "fnExactIsLocallySoluble", fn := fun _ => fun
  | [d1, d2] => { results := [.lit (.bool true)], args := [d1, d2] }
  | _ => none }
def fnExactIsLocallySolubleRow : OpenClaim := { program := "ytpikckgaonppkaa", sum := "c4524ecf72224570945b309ee1b96d6289564348eaec6ac3e6365d18624ea9c9", func := "loop.example/g01004/laws.FnExactIsLocallySoluble", spec := "fnExactIsLocallySoluble", unfollowed := true, recurses := true, apart := false }
def FnExactIsLocallySolubleSaid : Prop := fnExactIsLocallySolubleRow.holds Try.pinned (OpenSpec.ofChange fnExactIsLocallySolubleSpec)

/-- ITS FALSE NEIGHBOUR: 'it returns false'. Refute it at one input. -/
def fnExactIsLocallySolubleWrong : ChangeSpec := { name := "fnExactIsLocallySoluble", fn := fun _ => fun
  | [d1, d2] => { results := [.lit (.bool false)], args := [d1, d2] }
  | _ => none }
def FnExactIsLocallySolubleWrongFalsely : Prop := fnExactIsLocallySolubleRow.holds Try.pinned (OpenSpec.ofChange fnExactIsLocallySolubleWrong)

/-- 'laws.FnExactFailingPrimes': WHATEVER THE INPUT: true; the input reads as it did. -/
def fnExactFailingPrimesSpec : ChangeSpec := { name := "fnExactFailingPrimes", fn := fun _ => fun
  | [d] => { results := [.lit (.bool true)], args := [d] }
  | _ => none }
def fnExactFailingPrimesRow : OpenClaim := { program := "ytpikckgaonppkaa", sum := "c4524ecf72224570945b309ee1b96d6289564348eaec6ac3e6365d18624ea9c9", func := "loop.example/g01004/laws.FnExactFailingPrimes", spec := "fnExactFailingPrimes", unfollowed := true, recurses := true, apart := false }
def FnExactFailingPrimesSaid : Prop := fnExactFailingPrimesRow.holds Try.pinned (OpenSpec.ofChange fnExactFailingPrimesSpec)

/-- ITS FALSE NEIGHBOUR: 'it returns false'. Refute it at one input. -/
def fnExactFailingPrimesWrong : ChangeSpec := { name := "fnExactFailingPrimes", fn := fun _ => fun
  | [d] => { results := [.lit (.bool false)], args := [d] }
  | _ => none }
def FnExactFailingPrimesWrongFalsely : Prop := fnExactFailingPrimesRow.holds Try.pinned (OpenSpec.ofChange fnExactFailingPrimesWrong)

/-- 'laws.FnExactIsEverywhereSoluble': WHATEVER THE INPUT: true; the input reads as it did. -/
def fnExactIsEverywhereSolubleSpec : ChangeSpec := { name := "fnExactIsEverywhereSoluble", fn := fun _ => fun
  | [d] => { results := [.lit (.bool true)], args := [d] }
  | _ => none }
def fnExactIsEverywhereSolubleRow : OpenClaim := { program := "ytpikckgaonppkaa", sum := "c4524ecf72224570945b309ee1b96d6289564348eaec6ac3e6365d18624ea9c9", func := "loop.example/g01004/laws.FnExactIsEverywhereSoluble", spec := "fnExactIsEverywhereSoluble", unfollowed := true, recurses := true, apart := false }
def FnExactIsEverywhereSolubleSaid : Prop := fnExactIsEverywhereSolubleRow.holds Try.pinned (OpenSpec.ofChange fnExactIsEverywhereSolubleSpec)

/-- ITS FALSE NEIGHBOUR: 'it returns false'. Refute it at one input. -/
def fnExactIsEverywhereSolubleWrong : ChangeSpec := { name := "fnExactIsEverywhereSoluble", fn := fun _ => fun
  | [d] => { results := [.lit (.bool false)], args := [d] }
  | _ => none }
def FnExactIsEverywhereSolubleWrongFalsely : Prop := fnExactIsEverywhereSolubleRow.holds Try.pinned (OpenSpec.ofChange fnExactIsEverywhereSolubleWrong)

/-- 'laws.FnExactReasonAgainst': WHATEVER THE INPUT: true; the input reads as it did. -/
def fnExactReasonAgainstSpec : ChangeSpec := { name := "fnExactReasonAgainst", fn := fun _ => fun
  | [d1, d2, d3] => { results := [.lit (.bool true)], args := [d1, d2, d3] }
  | _ => none }
def fnExactReasonAgainstRow : OpenClaim := { program := "ytpikckgaonppkaa", sum := "c4524ecf72224570945b309ee1b96d6289564348eaec6ac3e6365d18624ea9c9", func := "loop.example/g01004/laws.FnExactReasonAgainst", spec := "fnExactReasonAgainst", unfollowed := true, recurses := true, apart := false }
def FnExactReasonAgainstSaid : Prop := fnExactReasonAgainstRow.holds Try.pinned (OpenSpec.ofChange fnExactReasonAgainstSpec)

/-- ITS FALSE NEIGHBOUR: 'it returns false'. Refute it at one input. -/
def fnExactReasonAgainstWrong : ChangeSpec := { name := "fnExactReasonAgainst", fn := fun _ => fun
  | [d1, d2, d3] => { results := [.lit (.bool false)], args := [d1, d2, d3] }
  | _ => none }
def FnExactReasonAgainstWrongFalsely : Prop := fnExactReasonAgainstRow.holds Try.pinned (OpenSpec.ofChange fnExactReasonAgainstWrong)

/-- 'laws.FnExactSelmerDivisors': WHATEVER THE INPUT: true; the input reads as it did. -/
def fnExactSelmerDivisorsSpec : ChangeSpec := { name := "fnExactSelmerDivisors", fn := fun _ => fun
  | [d1, d2] => { results := [.lit (.bool true)], args := [d1, d2] }
  | _ => none }
def fnExactSelmerDivisorsRow : OpenClaim := { program := "ytpikckgaonppkaa", sum := "c4524ecf72224570945b309ee1b96d6289564348eaec6ac3e6365d18624ea9c9", func := "loop.example/g01004/laws.FnExactSelmerDivisors", spec := "fnExactSelmerDivisors", unfollowed := true, recurses := true, apart := false }
def FnExactSelmerDivisorsSaid : Prop := fnExactSelmerDivisorsRow.holds Try.pinned (OpenSpec.ofChange fnExactSelmerDivisorsSpec)

/-- ITS FALSE NEIGHBOUR: 'it returns false'. Refute it at one input. -/
def fnExactSelmerDivisorsWrong : ChangeSpec := { name := "fnExactSelmerDivisors", fn := fun _ => fun
  | [d1, d2] => { results := [.lit (.bool false)], args := [d1, d2] }
  | _ => none }
def FnExactSelmerDivisorsWrongFalsely : Prop := fnExactSelmerDivisorsRow.holds Try.pinned (OpenSpec.ofChange fnExactSelmerDivisorsWrong)

/-- 'laws.FnExactLiftsModulo': WHATEVER THE INPUT: true; the input reads as it did. -/
def fnExactLiftsModuloSpec : ChangeSpec := { name := "fnExactLiftsModulo", fn := fun _ => fun
  | [d1, d2, d3, d4, d5] => { results := [.lit (.bool true)], args := [d1, d2, d3, d4, d5] }
  | _ => none }
def fnExactLiftsModuloRow : OpenClaim := { program := "ytpikckgaonppkaa", sum := "c4524ecf72224570945b309ee1b96d6289564348eaec6ac3e6365d18624ea9c9", func := "loop.example/g01004/laws.FnExactLiftsModulo", spec := "fnExactLiftsModulo", unfollowed := true, recurses := true, apart := false }
def FnExactLiftsModuloSaid : Prop := fnExactLiftsModuloRow.holds Try.pinned (OpenSpec.ofChange fnExactLiftsModuloSpec)

/-- ITS FALSE NEIGHBOUR: 'it returns false'. Refute it at one input. -/
def fnExactLiftsModuloWrong : ChangeSpec := { name := "fnExactLiftsModulo", fn := fun _ => fun
  | [d1, d2, d3, d4, d5] => { results := [.lit (.bool false)], args := [d1, d2, d3, d4, d5] }
  | _ => none }
def FnExactLiftsModuloWrongFalsely : Prop := fnExactLiftsModuloRow.holds Try.pinned (OpenSpec.ofChange fnExactLiftsModuloWrong)

/-- 'laws.FnExactCountPossible': WHATEVER THE INPUT: true; the input reads as it did. -/
def fnExactCountPossibleSpec : ChangeSpec := { name := "fnExactCountPossible", fn := fun _ => fun
  | [d1, d2, d3] => { results := [.lit (.bool true)], args := [d1, d2, d3] }
  | _ => none }
def fnExactCountPossibleRow : OpenClaim := { program := "ytpikckgaonppkaa", sum := "c4524ecf72224570945b309ee1b96d6289564348eaec6ac3e6365d18624ea9c9", func := "loop.example/g01004/laws.FnExactCountPossible", spec := "fnExactCountPossible", unfollowed := true, recurses := true, apart := false }
def FnExactCountPossibleSaid : Prop := fnExactCountPossibleRow.holds Try.pinned (OpenSpec.ofChange fnExactCountPossibleSpec)

/-- ITS FALSE NEIGHBOUR: 'it returns false'. Refute it at one input. -/
def fnExactCountPossibleWrong : ChangeSpec := { name := "fnExactCountPossible", fn := fun _ => fun
  | [d1, d2, d3] => { results := [.lit (.bool false)], args := [d1, d2, d3] }
  | _ => none }
def FnExactCountPossibleWrongFalsely : Prop := fnExactCountPossibleRow.holds Try.pinned (OpenSpec.ofChange fnExactCountPossibleWrong)

/- THE SECOND FORM. 'bulk': how many values and letters a reading holds, each counted each time it is reached (what is shared counts as often as it is met; a slice's spare places count too). A statement '..UptoSaid' is the law's where the arguments, and the package variables that the reading takes, are together of bulk at most 1048576: NARROWER than '..Said'. Prove '..Said' where nothing that the law and all that it calls make is longer than what came in: it says more and counts as full. Else prove '..UptoSaid'. A law counts once. -/
mutual
def uptoBulk {H : Type} : DataW H → Nat
  | .lit (.string bytes) => bytes.length + 1
  | .lit _ => 1
  | .nil => 1
  | .ptr d => uptoBulk d + 1
  | .slice elems spare => uptoBulkAll elems + uptoBulkAll spare + 1
  | .agg parts => uptoBulkAll parts + 1
  | .iface _ d => uptoBulk d + 1
  | .map entries => uptoBulkEntries entries + 1
  | .held _ => 1
def uptoBulkAll {H : Type} : List (DataW H) → Nat
  | [] => 0
  | d :: r => uptoBulk d + uptoBulkAll r
def uptoBulkEntries {H : Type} : List (Lit × DataW H) → Nat
  | [] => 0
  | x :: r => uptoBulkEntry x + uptoBulkEntries r
def uptoBulkEntry {H : Type} : Lit × DataW H → Nat
  | (.string bytes, d) => bytes.length + uptoBulk d + 1
  | (_, d) => uptoBulk d + 1
 end
def uptoSmall : (H : Type) → List (DataW H) → Bool := fun _ ds => decide (uptoBulkAll ds ≤ 1048576)
def OpenSpec.upto (s : _root_.Go.ChangeSpec) : _root_.Go.OpenSpec := { _root_.Go.OpenSpec.ofChange s with cond := some uptoSmall }

/-- 'laws.FnExactLocalPair', WHERE WHAT IT READS IS OF BULK AT MOST 1048576: true; the input reads as it did. -/
def fnExactLocalPairUptoRow : OpenClaim := { program := "ytpikckgaonppkaa", sum := "c4524ecf72224570945b309ee1b96d6289564348eaec6ac3e6365d18624ea9c9", func := "loop.example/g01004/laws.FnExactLocalPair", spec := "fnExactLocalPair", unfollowed := true, recurses := true, apart := false, narrowed := true }
def FnExactLocalPairUptoSaid : Prop := fnExactLocalPairUptoRow.holds Try.pinned (OpenSpec.upto fnExactLocalPairSpec)

/-- 'laws.FnExactIsLocallySoluble', WHERE WHAT IT READS IS OF BULK AT MOST 1048576: true; the input reads as it did. -/
def fnExactIsLocallySolubleUptoRow : OpenClaim := { program := "ytpikckgaonppkaa", sum := "c4524ecf72224570945b309ee1b96d6289564348eaec6ac3e6365d18624ea9c9", func := "loop.example/g01004/laws.FnExactIsLocallySoluble", spec := "fnExactIsLocallySoluble", unfollowed := true, recurses := true, apart := false, narrowed := true }
def FnExactIsLocallySolubleUptoSaid : Prop := fnExactIsLocallySolubleUptoRow.holds Try.pinned (OpenSpec.upto fnExactIsLocallySolubleSpec)

/-- 'laws.FnExactFailingPrimes', WHERE WHAT IT READS IS OF BULK AT MOST 1048576: true; the input reads as it did. -/
def fnExactFailingPrimesUptoRow : OpenClaim := { program := "ytpikckgaonppkaa", sum := "c4524ecf72224570945b309ee1b96d6289564348eaec6ac3e6365d18624ea9c9", func := "loop.example/g01004/laws.FnExactFailingPrimes", spec := "fnExactFailingPrimes", unfollowed := true, recurses := true, apart := false, narrowed := true }
def FnExactFailingPrimesUptoSaid : Prop := fnExactFailingPrimesUptoRow.holds Try.pinned (OpenSpec.upto fnExactFailingPrimesSpec)

/-- 'laws.FnExactIsEverywhereSoluble', WHERE WHAT IT READS IS OF BULK AT MOST 1048576: true; the input reads as it did. -/
def fnExactIsEverywhereSolubleUptoRow : OpenClaim := { program := "ytpikckgaonppkaa", sum := "c4524ecf72224570945b309ee1b96d6289564348eaec6ac3e6365d18624ea9c9", func := "loop.example/g01004/laws.FnExactIsEverywhereSoluble", spec := "fnExactIsEverywhereSoluble", unfollowed := true, recurses := true, apart := false, narrowed := true }
def FnExactIsEverywhereSolubleUptoSaid : Prop := fnExactIsEverywhereSolubleUptoRow.holds Try.pinned (OpenSpec.upto fnExactIsEverywhereSolubleSpec)

/-- 'laws.FnExactReasonAgainst', WHERE WHAT IT READS IS OF BULK AT MOST 1048576: true; the input reads as it did. -/
def fnExactReasonAgainstUptoRow : OpenClaim := { program := "ytpikckgaonppkaa", sum := "c4524ecf72224570945b309ee1b96d6289564348eaec6ac3e6365d18624ea9c9", func := "loop.example/g01004/laws.FnExactReasonAgainst", spec := "fnExactReasonAgainst", unfollowed := true, recurses := true, apart := false, narrowed := true }
def FnExactReasonAgainstUptoSaid : Prop := fnExactReasonAgainstUptoRow.holds Try.pinned (OpenSpec.upto fnExactReasonAgainstSpec)

/-- 'laws.FnExactSelmerDivisors', WHERE WHAT IT READS IS OF BULK AT MOST 1048576: true; the input reads as it did. -/
def fnExactSelmerDivisorsUptoRow : OpenClaim := { program := "ytpikckgaonppkaa", sum := "c4524ecf72224570945b309ee1b96d6289564348eaec6ac3e6365d18624ea9c9", func := "loop.example/g01004/laws.FnExactSelmerDivisors", spec := "fnExactSelmerDivisors", unfollowed := true, recurses := true, apart := false, narrowed := true }
def FnExactSelmerDivisorsUptoSaid : Prop := fnExactSelmerDivisorsUptoRow.holds Try.pinned (OpenSpec.upto fnExactSelmerDivisorsSpec)

/-- 'laws.FnExactLiftsModulo', WHERE WHAT IT READS IS OF BULK AT MOST 1048576: true; the input reads as it did. -/
def fnExactLiftsModuloUptoRow : OpenClaim := { program := "ytpikckgaonppkaa", sum := "c4524ecf72224570945b309ee1b96d6289564348eaec6ac3e6365d18624ea9c9", func := "loop.example/g01004/laws.FnExactLiftsModulo", spec := "fnExactLiftsModulo", unfollowed := true, recurses := true, apart := false, narrowed := true }
def FnExactLiftsModuloUptoSaid : Prop := fnExactLiftsModuloUptoRow.holds Try.pinned (OpenSpec.upto fnExactLiftsModuloSpec)

/-- 'laws.FnExactCountPossible', WHERE WHAT IT READS IS OF BULK AT MOST 1048576: true; the input reads as it did. -/
def fnExactCountPossibleUptoRow : OpenClaim := { program := "ytpikckgaonppkaa", sum := "c4524ecf72224570945b309ee1b96d6289564348eaec6ac3e6365d18624ea9c9", func := "loop.example/g01004/laws.FnExactCountPossible", spec := "fnExactCountPossible", unfollowed := true, recurses := true, apart := false, narrowed := true }
def FnExactCountPossibleUptoSaid : Prop := fnExactCountPossibleUptoRow.holds Try.pinned (OpenSpec.upto fnExactCountPossibleSpec)

end Rows
end Go.Proofs.Ytpikckgaonppkaa
